/- Texts laid one behind the other: BJ, BG, BM. -/
import Derived.Test.YtliofoikejdjeaaGreatV11
import Derived.Test.YtliofoikejdjeaaGreatWTab
import Derived.Deep.LoopGhost
import Derived.Recover
import Derived.Test.YtliofoikejdjeaaGreatV7
/- gread's builder: build. -/
namespace Go.Proofs.YtliofoikejdjeaaGreat
open Go.RowKit Go.Proofs.YtliofoikejdjeaaGreatW.PrintWords Go.Proofs.YtliofoikejdjeaaGreatW.PrintLast
set_option linter.unusedVariables false
set_option linter.unusedSimpArgs false
def bd16T : Bool × List (List Nat × List Nat) := (true, [([], []), ([0], [0]), ([1], [1]), ([2], [2]), ([], []), ([4], [4]), ([5], [5]), ([3, 6], [3, 6]), ([7], [7]), ([], []), ([9, 8, 7, 0, 1, 2, 3, 4, 5, 6, 7, 8, 9], [8, 9])])
def bd16B : List Nat := [0, 1, 3, 7, 0, 16, 48, 127, 255, 0, 1023]
theorem bd16Tab : rtab .any (opsOf Tryz.f30 16) = bd16T := by kernel_rfl
theorem bd16Bits : waitsOk bd16T.2 bd16B = true := by kernel_rfl
def bd20T : Bool × List (List Nat × List Nat) := (true, [([], []), ([0], [0]), ([], []), ([2], [2]), ([3], [3]), ([4], [4]), ([], []), ([5, 6], [5, 6]), ([7], [7]), ([1, 8, 7], [1, 8]), ([0, 1, 2, 3, 4, 5, 6, 7, 8, 9], []), ([10, 9, 9, 0, 1, 2, 3, 4, 5, 6, 7, 8, 9], [9, 10])])
def bd20B : List Nat := [0, 1, 0, 4, 12, 28, 0, 124, 252, 511, 1023, 2047]
theorem bd20Tab : rtab .any (opsOf Tryz.f30 20) = bd20T := by kernel_rfl
theorem bd20Bits : waitsOk bd20T.2 bd20B = true := by kernel_rfl
def bd22T : Bool × List (List Nat × List Nat) := (true, [([], []), ([], []), ([1], [1]), ([2], [2]), ([3], [3]), ([4], [4]), ([], []), ([6], [6]), ([5, 7], [5, 7]), ([0, 0, 1, 2, 3, 4, 5, 6, 7, 8], [0]), ([9, 0, 1, 2, 3, 4, 5, 6, 7, 8], [9]), ([10, 0, 1, 2, 3, 4, 5, 6, 7, 8], [10]), ([11, 8, 8, 0, 1, 2, 3, 4, 5, 6, 7, 8], [8, 11])])
def bd22B : List Nat := [0, 0, 2, 6, 14, 30, 0, 64, 254, 511, 1023, 2047, 4095]
theorem bd22Tab : rtab .any (opsOf Tryz.f30 22) = bd22T := by kernel_rfl
theorem bd22Bits : waitsOk bd22T.2 bd22B = true := by kernel_rfl
def bd26T : Bool × List (List Nat × List Nat) := (true, [([], []), ([], []), ([1], [1]), ([2], [2]), ([3], [3]), ([], []), ([5], [5]), ([6], [6]), ([7], [7]), ([8], [8]), ([9], [9]), ([10], [10]), ([11], [11]), ([12], [12]), ([13], [13]), ([4, 14], [4, 14]), ([0, 0, 1, 2, 3, 4, 5, 6, 7, 8, 9, 10, 11, 12, 13, 14, 15], [0]), ([16, 0, 1, 2, 3, 4, 5, 6, 7, 8, 9, 10, 11, 12, 13, 14, 15], [16]), ([17, 0, 1, 2, 3, 4, 5, 6, 7, 8, 9, 10, 11, 12, 13, 14, 15], [17]), ([18, 15, 15, 0, 1, 2, 3, 4, 5, 6, 7, 8, 9, 10, 11, 12, 13, 14, 15], [15, 18])])
def bd26B : List Nat := [0, 0, 2, 6, 14, 0, 32, 96, 224, 480, 992, 2016, 4064, 8160, 16352, 32766, 65535, 131071, 262143, 524287]
theorem bd26Tab : rtab .any (opsOf Tryz.f30 26) = bd26T := by kernel_rfl
theorem bd26Bits : waitsOk bd26T.2 bd26B = true := by kernel_rfl
def BuildEnd (W1 : World) (R : Except Ft Gm) (e : Ending) (w' : World) : Prop :=
  match R with
  | .error f => Panics f e ∧ Below W1.heap.size W1 w'
  | .ok g => ∃ A0 A1 A2 c0 c1 c2, e = .returned (.agg (gv A0 A1 A2 c0 c1 c2 g)) ∧ (∀ w'', (∀ k, W1.heap.size ≤ k → k < w'.heap.size → w''.heap[k]? = w'.heap[k]?) → GmAt w'' A0 A1 A2 c0 c1 c2 g) ∧ Below W1.heap.size W1 w'
def gramC (x : Hd) : Except Ft Bu → Except Ft Gm
  | .error e => .error e
  | .ok u => .ok (gramB x u)
theorem add0_ (ad : Addr) : ad.add 0 = ad := by
  unfold Addr.add
  split <;> simp_all
theorem add_flat (b o j : Nat) : (⟨b, o, none⟩ : Addr).add j = ⟨b, o + j, none⟩ := by
  unfold Addr.add
  split <;> simp_all
theorem build_err {x : Hd} {rs : List Ru} {f : Ft} (h : headsB rs x = .error f) : buildB x rs = .error f := by
  unfold buildB
  rw [h]
theorem build_ok {x : Hd} {rs : List Ru} {ts : List ByteArray} (h : headsB rs x = .ok ts) : buildB x rs = gramC x (rulesB rs ts.length rs ⟨ts, [], []⟩) := by
  unfold buildB
  rw [h]
  simp only
  cases rulesB rs ts.length rs ⟨ts, [], []⟩ <;> rfl
set_option maxHeartbeats 16000000 in
set_option maxRecDepth 100000 in
theorem b_build {W1 w : World} {b m : Nat} {x : Hd} {rs : List Ru} {B mt mn : Nat} {vT vN vS : Value} (h : BS W1 w b m x rs B mt mn vT vN vS ⟨[], [], []⟩ [] []) (hd1 : x.declared.length ≤ 10000) (hd2 : ∀ z ∈ x.declared, z.s.size ≤ 10000) (hs2 : ∀ z ∈ x.starts, z.s.size ≤ 10000) (hms : x.starts ≠ [] → x.marks ≠ []) (hr1 : rs.length ≤ 10000) (hr2 : ∀ r ∈ rs, r.left.s.size ≤ 10000 ∧ r.sides.length ≤ 10000 ∧ ∀ s ∈ r.sides, s.l.length ≤ 10000 ∧ ∀ t ∈ s.l, t.s.size ≤ 10000) :
    Calls Tryz.prog 30 #[.pointer (some ⟨B, 0, none⟩)] w (BuildEnd W1 (buildB x rs)) := by
  have hb1 := below_alloc (Below.refl w.heap.size w) (.cells #[.slice none 0 0, .slice none 0 0, .slice none 0 0, .int .i64 0] 25 (0, 0))
  have HB0 := Aside0.mk (h.later hb1)
  have HZ0 := Aside0.mk (blk_new w (.cells #[.slice none 0 0, .slice none 0 0, .slice none 0 0, .int .i64 0] 25 (0, 0)))
  have HH := Aside0.mk (b_heads (HB0.out) rfl hd1 hd2 hs2 hms)
  have HR1 := Aside0.mk hr1
  have HR2 := Aside0.mk hr2
  obtain ⟨A1, c1, A2, c2, A3, c3, A4, c4, hrd, hC1, hC2, hC3, hC4⟩ := h.reads
  have HC4 := Aside0.mk hC4
  have HC3 := Aside0.mk hC3
  have READ : Aside0 (∀ (w' : World) (vT vN vS : Value) (u2 : Bu) (tm nm : List ByteArray), BS W1 w' b m x rs B mt mn vT vN vS u2 tm nm → w'.cell? ⟨B, 0, none⟩ = some (.pointer (some ⟨b, 0, none⟩)) ∧ w'.cell? ⟨b, 3, none⟩ = some (.slice A3 x.starts.length c3) ∧ w'.cell? ⟨b, 4, none⟩ = some (.slice A4 rs.length c4)) := ⟨fun w' vT vN vS u2 tm nm hh => by
    obtain ⟨v0, B1, d1, B2, d2, B3, d3, B4, d4, hk, _⟩ := hh.rd.cells
    have k0 := hrd w (Below.refl _ _)
    have e3 := (blk_cell (blk_below hk h.below) 3).trans rfl
    have e4 := (blk_cell (blk_below hk h.below) 4).trans rfl
    have g3 := (blk_cell (blk_below hk hh.below) 3).trans rfl
    have g4 := (blk_cell (blk_below hk hh.below) 4).trans rfl
    exact ⟨hh.cells.1, by rw [g3, ← k0.2.2.2.1, e3], by rw [g4, ← k0.2.2.2.2.1, e4]⟩⟩
  have READB : Aside0 (b < W1.heap.size ∧ ∀ w', Below W1.heap.size W1 w' → w'.cell? ⟨b, 3, none⟩ = some (.slice A3 x.starts.length c3)) := by
    obtain ⟨v0, B1, d1, B2, d2, B3, d3, B4, d4, hk, _⟩ := h.rd.cells
    refine ⟨⟨blk_lt hk, fun w' hb => ?_⟩⟩
    have k0 := hrd w (Below.refl _ _)
    have e3 := (blk_cell (blk_below hk h.below) 3).trans rfl
    have g3 := (blk_cell (blk_below hk hb) 3).trans rfl
    rw [g3, ← k0.2.2.2.1, e3]
  obtain ⟨gr, hgr⟩ : ∃ gr, w.heap.size = gr := ⟨_, rfl⟩
  have HGW : Aside0 (W1.heap.size ≤ gr) := ⟨by have := h.below.size; omega⟩
  rw [hgr] at HZ0
  clear h hb1 hd1 hd2 hs2 hms hr1 hr2 hrd hC1 hC2 hC3 hC4
  cases hH : headsB rs x with
  | error f =>
    have HRV : Aside0 (buildB x rs = .error f) := ⟨build_err hH⟩
    rw [hH] at HH
    clear hH
    go_enter Tryz.func30, Tryz.ntmps30
    go_wp2_with (go_at_call 63; ((with_reducible refine HH.out.mono ?_); rintro e w2 ⟨⟨older, rfl, ho⟩, hb⟩))
    refine ⟨rfl, ?_⟩
    rw [HRV.out]
    exact ⟨⟨older, rfl, ho⟩, hb⟩
  | ok ts =>
    obtain ⟨R, hR⟩ : ∃ R, rulesB rs ts.length rs ⟨ts, [], []⟩ = R := ⟨_, rfl⟩
    have HRV : Aside0 (buildB x rs = gramC x R) := ⟨by rw [← hR]; exact build_ok hH⟩
    have HR0 := Aside0.mk hR
    have HTL := Aside0.mk (heads_le hH)
    rw [hH] at HH
    clear hH hR
    obtain ⟨d, hd⟩ : ∃ d, ts.length = d := ⟨_, rfl⟩
    rw [hd] at HR0
    have HD := Aside0.mk hd
    go_enter Tryz.func30, Tryz.ntmps30
    go_wp2_with (go_at_call 63; ((with_reducible refine HH.out.mono ?_); rintro e w2 ⟨rfl, vT1, h3, h4⟩; have HB1 := Aside0.mk h3; have HZ1 := Aside0.mk (HB0.out.keepT h4 HZ0.out (by decide) (by decide)); obtain ⟨q0, q3, q4⟩ := READ.out _ _ _ _ _ _ _ h3; obtain ⟨Av, cv, ev⟩ := Kd.R_slice h3.ts; have qT : w2.cell? ⟨B, 3, none⟩ = some (.slice Av d cv) := (h3.cells.2.2.2.1).trans (congrArg some (ev.trans (by rw [← hd]))); clear h3 h4 ev HH HB0 HZ0))
    clear q0 q3 q4 qT hd
    go_loopg [29] rs.length (fun gg v29 wr => ∃ (k : Nat) (u2 : Bu) (vT2 vN2 vS2 : Value), k ≤ rs.length ∧ rs.length - k ≤ gg ∧ v29 = .int .i64 k ∧ u2.ts.length ≤ 120 ∧ u2.ns.length ≤ 120 ∧ Aside0 (Fine u2) ∧ Aside0 (rulesB rs d (rs.drop k) u2 = R) ∧ Aside0 (BS W1 wr b m x rs B mt mn vT2 vN2 vS2 u2 u2.ts u2.ns) ∧ Aside0 (wr.heap[gr]? = some (.cells #[.slice none 0 0, .slice none 0 0, .slice none 0 0, .int .i64 0] 25 (0, 0))))
    case atStart => exact ⟨0, ⟨ts, [], []⟩, vT1, vN, vS, by omega, by omega, rfl, HTL.out, by show (0 : Nat) ≤ 120; omega, ⟨by show (0 : Nat) ≤ 300; omega, fun y hy => by cases hy⟩, ⟨by rw [List.drop_zero]; exact HR0.out⟩, HB1, HZ1⟩
    case round =>
      clear HR0 HB1 HZ1
      obtain ⟨k, u2, vT2, vN2, vS2, hk, hgg, rfl, hts, hns, HFI, HR, HB, HZ⟩ := hrel
      have hrl := HR1.out
      by_cases hlt : (k : Int) < (rs.length : Int)
      · have hkl : k < rs.length := by omega
        obtain ⟨r, l2, hdr⟩ : ∃ r l2, rs.drop k = r :: l2 := ⟨_, _, List.drop_eq_getElem_cons hkl⟩
        have hr2 : rs.drop (k + 1) = l2 := by rw [← List.drop_drop, hdr]; rfl
        have hgt : rs.getD k default = r := by rw [List.getD_eq_getElem?_getD, ← List.head?_drop, hdr]; rfl
        have HDR := Aside0.mk hr2
        obtain ⟨hz1, hz2, hz3⟩ := HR2.out r (List.mem_of_mem_drop (hdr ▸ List.mem_cons_self : r ∈ rs.drop k))
        have HZ3 := Aside0.mk hz3
        obtain ⟨ad, As, cs, ea, j0, j1, j2, j3, hCs⟩ := at_ru HC4.out k hkl
        subst ea
        rw [hgt] at j0 j1 j2 j3 hCs
        have k0 := (HB.out.below.cell (World.block_lt_of_cell? _ _ j0)).trans j0
        have k1 := (HB.out.below.cell (World.block_lt_of_cell? _ _ j1)).trans j1
        have k2 := (HB.out.below.cell (World.block_lt_of_cell? _ _ j2)).trans j2
        have k3 := (HB.out.below.cell (World.block_lt_of_cell? _ _ j3)).trans j3
        have HCS := Aside0.mk hCs
        rw [hdr, rulesB_step] at HR
        have hba := below_alloc (Below.refl wr.heap.size wr) (.cells #[.int .i64 r.left.k, .string r.left.s, .int .i64 r.left.at_, .slice As r.sides.length cs] 93 (0, 0))
        have HBA := Aside0.mk (HB.out.later hba)
        have HZA := Aside0.mk (blk_below HZ.out hba)
        have HXA := Aside0.mk (blk_new wr (.cells #[.int .i64 r.left.k, .string r.left.s, .int .i64 r.left.at_, .slice As r.sides.length cs] 93 (0, 0)))
        have HLF := Aside0.mk (b_left HBA.out r.left hz1 d (by omega))
        unfold tkV at HLF
        obtain ⟨gx, hgx⟩ : ∃ gx, wr.heap.size = gx := ⟨_, rfl⟩
        rw [hgx] at HXA
        have HGX := Aside0.mk hgx
        have f0 := (blk_cell HXA.out 0).trans rfl
        clear HB HZ hdr hr2 hgt j0 j1 j2 j3 hCs hz3 hba
        clear f0
        cases hL : leftB r.left d u2.ts u2.ns with
        | error f =>
          rw [hL] at HLF HR
          clear hL
          have HRE : Aside0 (buildB x rs = .error f) := ⟨by rw [HRV.out, ← HR.out]; rfl⟩
          go_wp2_with (go_at_call 64; ((with_reducible refine HLF.out.mono ?_); rintro e w2 ⟨⟨older, rfl, ho⟩, hb⟩))
          refine ⟨rfl, ?_⟩
          rw [HRE.out]
          exact ⟨⟨older, rfl, ho⟩, hb⟩
        | ok ns =>
          have HNL := Aside0.mk (left_le hL hns)
          rw [hL] at HLF HR
          clear hL
          go_wp2_with (go_at_call 64; ((with_reducible refine HLF.out.mono ?_); rintro e w5 ⟨rfl, vN3, h3, h4⟩; have HB5 := Aside0.mk h3; have HZ5 := Aside0.mk (HBA.out.keepN h4 HZA.out (by decide) (by decide)); have HX5 := Aside0.mk (HBA.out.keepN h4 HXA.out (by decide) (by decide)); have q0 : w5.cell? ⟨gx, 3, none⟩ = some (.slice As r.sides.length cs) := (blk_cell HX5.out 3).trans rfl; clear h3 h4 HLF k0 k1 k2 k3))
          clear q0
          go_loopg [41] r.sides.length (fun g2 v41 wi => ∃ (j : Nat) (u3 : Bu) (vT3 vS3 : Value), j ≤ r.sides.length ∧ r.sides.length - j ≤ g2 ∧ v41 = .int .i64 j ∧ u3.ts.length ≤ 120 ∧ u3.ns.length ≤ 120 ∧ Aside0 (Fine u3) ∧ Aside0 (sidesC rs d l2 (sidesB rs r.left.s (r.sides.drop j) u3) = R) ∧ Aside0 (BS W1 wi b m x rs B mt mn vT3 vN3 vS3 u3 u3.ts u3.ns) ∧ Aside0 (wi.heap[gr]? = some (.cells #[.slice none 0 0, .slice none 0 0, .slice none 0 0, .int .i64 0] 25 (0, 0))) ∧ Aside0 (wi.heap[gx]? = some (.cells #[.int .i64 r.left.k, .string r.left.s, .int .i64 r.left.at_, .slice As r.sides.length cs] 93 (0, 0))))
          case atStart => exact ⟨0, { u2 with ns := ns }, vT2, vS2, by omega, by omega, rfl, hts, HNL.out, ⟨HFI.out⟩, ⟨by rw [List.drop_zero]; exact HR.out⟩, HB5, HZ5, HX5⟩
          case round =>
            clear HR HB5 HZ5 HX5 HBA HZA HXA
            obtain ⟨j, u3, vT3, vS3, hj, hg2, rfl, hts3, hns3, HF3, HR, HB, HZ, HX⟩ := hrel
            by_cases hlj : (j : Int) < (r.sides.length : Int)
            · have hjl : j < r.sides.length := by omega
              obtain ⟨s, s2, hds⟩ : ∃ s s2, r.sides.drop j = s :: s2 := ⟨_, _, List.drop_eq_getElem_cons hjl⟩
              have hs2' : r.sides.drop (j + 1) = s2 := by rw [← List.drop_drop, hds]; rfl
              have hgs : r.sides.getD j default = s := by rw [List.getD_eq_getElem?_getD, ← List.head?_drop, hds]; rfl
              have HDS := Aside0.mk hs2'
              obtain ⟨hs3, hs4⟩ := HZ3.out s (List.mem_of_mem_drop (hds ▸ List.mem_cons_self : s ∈ r.sides.drop j))
              obtain ⟨ad2, At, ct, es, i0, i1, hCt⟩ := at_sd HCS.out j hjl
              subst es
              rw [hgs] at i0 i1 hCt
              have k0 := (HB.out.below.cell (World.block_lt_of_cell? _ _ i0)).trans i0
              have k1 := (HB.out.below.cell (World.block_lt_of_cell? _ _ i1)).trans i1
              have k5 : wr.cell? ⟨gx, 1, none⟩ = some (.string r.left.s) := (blk_cell HX.out 1).trans rfl
              rw [hds, sides_step] at HR
              have hba := below_alloc (Below.refl wr.heap.size wr) (.cells #[.slice At s.l.length ct, .int .i64 s.at_] 96 (0, 0))
              have HBA := Aside0.mk (HB.out.later hba)
              have HZA := Aside0.mk (blk_below HZ.out hba)
              have HXA := Aside0.mk (blk_below HX.out hba)
              have HSD := Aside0.mk (b_side HBA.out r.left.s s (c := ct) hCt hs4 hs3 (by omega))
              have hgxl := blk_lt HX.out
              have HSN := Aside0.mk hs3
              clear HB HZ HX hds hs2' hgs i0 i1 hCt hs3 hs4 hba
              cases hS : sideB rs r.left.s s u3 with
              | error f =>
                rw [hS] at HSD HR
                clear hS
                have HRE : Aside0 (buildB x rs = .error f) := ⟨by rw [HRV.out, ← HR.out]; rfl⟩
                go_wp2_with (go_at_call 65; ((with_reducible refine HSD.out.mono ?_); rintro e w2 ⟨⟨older, rfl, ho⟩, hb⟩))
                refine ⟨rfl, ?_⟩
                rw [HRE.out]
                exact ⟨⟨older, rfl, ho⟩, hb⟩
              | ok u4 =>
                have HSL := Aside0.mk (side_le hS hts3)
                have HF4 := Aside0.mk (side_fine hS HSN.out HF3.out)
                rw [hS] at HSD HR
                clear hS
                go_wp2_with (go_at_call 65; ((with_reducible refine HSD.out.mono ?_); rintro e w6 ⟨rfl, vT4, vS4, h3, h4⟩; have HB6 := Aside0.mk h3; have HZ6 := Aside0.mk (HBA.out.keepS h4 HZA.out (by decide) (by decide) (by decide)); have HX6 := Aside0.mk (HBA.out.keepS h4 HXA.out (by decide) (by decide) (by decide)); clear h3 h4 HSD k0 k1 k5))
                go_roundg (r.sides.length - (j + 1))
                case measure => omega
                case rel => exact ⟨j + 1, u4, vT4, vS4, by omega, Nat.le_refl _, (by first | go_num | exact congrArg (Value.int IntKind.i64) (show wrap64 ((j : Int) + 1) = ((j + 1 : Nat) : Int) from by unfold wrap64; omega)), HSL.out.1, (by rw [HSL.out.2.1]; exact hns3), HF4, ⟨by rw [HDS.out]; exact HR.out⟩, HB6, HZ6, HX6⟩
            · obtain rfl : j = r.sides.length := by omega
              have HR6 : Aside0 (rulesB rs d l2 u3 = R) := ⟨by rw [← HR.out, List.drop_length]; rfl⟩
              clear HR
              go_wp2
              go_roundg (rs.length - (k + 1))
              case measure => omega
              case rel => exact ⟨k + 1, u3, vT3, vN3, vS3, by omega, Nat.le_refl _, (by first | go_num | exact congrArg (Value.int IntKind.i64) (show wrap64 ((k : Int) + 1) = ((k + 1 : Nat) : Int) from by unfold wrap64; omega)), hts3, hns3, HF3, ⟨by rw [HDR.out]; exact HR6.out⟩, HB, HZ⟩
      · obtain rfl : k = rs.length := by omega
        have HRE : Aside0 (buildB x rs = .ok (gramB x u2)) := ⟨by rw [HRV.out, ← HR.out, List.drop_length]; rfl⟩
        have HG := Aside0.mk HB.out.gs
        obtain ⟨As, cs, es, ls, Cs⟩ := Kd.R_reads HG.out.rs_
        have HCS := Aside0.mk Cs
        have q0 := HG.out.cells.1
        have q7 : wr.cell? ⟨B, 7, none⟩ = some (.slice As u2.rs.length cs) := (HG.out.cells.2.2.2.2.2).trans (congrArg some es)
        have HES := Aside0.mk es
        clear HR es ls Cs HCS hlt
        go_wp2
        clear q0 q7
        go_loopg [58] u2.rs.length (fun g3 v58 wo => ∃ (k3 : Nat) (rr : List Rl) (vR : Value), k3 ≤ u2.rs.length ∧ u2.rs.length - k3 ≤ g3 ∧ v58 = .int .i64 k3 ∧ Aside0 (rr = (u2.rs.take k3).map (ruleB u2.ts u2.ns)) ∧ Aside0 (GS W1 wo b m x rs B (.map (some mt)) (.map (some mn)) vT2 vN2 vR 0 vS2 u2 rr) ∧ Aside0 (wo.heap[gr]? = some (.cells #[.slice none 0 0, .slice none 0 0, .slice none 0 0, .int .i64 0] 25 (0, 0))))
        case atStart => exact ⟨0, [], .slice none 0 0, by omega, by omega, rfl, ⟨rfl⟩, HG, HZ⟩
        case round =>
          clear HB HG HZ
          obtain ⟨wo, hwo⟩ : ∃ wo, wo = wr := ⟨_, rfl⟩
          subst hwo
          obtain ⟨k3, rr, vR, hk3, hg3, rfl, HRR, HG, HZ⟩ := hrel
          have hrrl : rr.length = k3 := by rw [HRR.out, List.length_map, List.length_take]; omega
          have hful := HFI.out.1
          obtain ⟨A0, A1, A2, c0, c1, c2, e0, e1, e2, hgm⟩ := HG.out.gram (by omega) (by omega) (by omega)
          have HGM := Aside0.mk hgm
          by_cases hl3 : (k3 : Int) < (u2.rs.length : Int)
          · have hkl3 : k3 < u2.rs.length := by omega
            obtain ⟨y, y2, hdy⟩ : ∃ y y2, u2.rs.drop k3 = y :: y2 := ⟨_, _, List.drop_eq_getElem_cons hkl3⟩
            have hgy : u2.rs.getD k3 default = y := by rw [List.getD_eq_getElem?_getD, ← List.head?_drop, hdy]; rfl
            obtain ⟨hy1, hy2⟩ := HFI.out.2 y (List.mem_of_mem_drop (hdy ▸ List.mem_cons_self : y ∈ u2.rs.drop k3))
            obtain ⟨As', cs', es', _, Cs'⟩ := Kd.R_reads HG.out.rs_
            obtain ⟨ady, Ay, cy, ea, l0, ly, Cy⟩ := at_strs Cs' k3 hkl3
            rw [hgy] at l0 ly Cy
            obtain ⟨ya, yr, rfl⟩ : ∃ ya yr, y = ya :: yr := by
              cases y with
              | nil => simp at hy1
              | cons a r => exact ⟨a, r, rfl⟩
            obtain ⟨adz, ez, lz⟩ := at_str Cy 0 (by simp)
            rw [show adz.add 0 = adz from add0_ adz] at lz
            have lz : wo.cell? adz = some (.string ya) := lz
            have hAs : As = As' := by
              have := HES.out.symm.trans es'
              injection this
            subst hAs
            subst ea ez
            obtain ⟨F, hF⟩ : ∃ F, findB u2.ts u2.ns ya = F := ⟨_, rfl⟩
            have KF : Aside0 (∀ w', Below wo.heap.size wo w' → Calls Tryz.prog 66 #[.agg #[.slice A0 u2.ts.length c0, .slice A1 u2.ns.length c1, .slice A2 rr.length c2, .int .i64 0], .string ya] w' fun e w'' => e = .returned (.int .i64 F) ∧ Below w'.heap.size w' w'') := ⟨fun w' hw => (gram_find (ts := u2.ts) (ns := u2.ns) ya (Kd.C_below hgm.terms hw) (Kd.C_below hgm.nons hw) (by omega) (by omega)).mono (fun e w'' hh => ⟨hF ▸ hh.1, hh.2 ▸ below_alloc (Below.refl _ _) _⟩)⟩
            have KEY : Aside0 (∀ w', Below wo.heap.size wo w' → w'.cell? ⟨B, 3, none⟩ = some (.slice A0 u2.ts.length c0) ∧ w'.cell? ⟨B, 4, none⟩ = some (.slice A1 u2.ns.length c1) ∧ w'.cell? ⟨B, 5, none⟩ = some (.slice A2 rr.length c2) ∧ w'.cell? ⟨B, 6, none⟩ = some (.int .i64 0) ∧ w'.cell? adz = some (.string ya)) := ⟨fun w' hw => by
              obtain ⟨g0, g3, g4, g5, g6, g7⟩ := (HG.out.later hw).cells
              exact ⟨by rw [g3, e0], by rw [g4, e1], by rw [g5, e2], g6, (hw.cell (World.block_lt_of_cell? _ _ lz)).trans lz⟩⟩
            have HCY := Aside0.mk Cy
            have hyl : (0 : Int) < (((ya :: yr).length : Nat) : Int) := by simp
            have hynat : 0 < (ya :: yr).length := by simp
            obtain ⟨ny, hny⟩ : ∃ ny, (ya :: yr).length = ny := ⟨_, rfl⟩
            rw [hny] at l0 hyl hynat
            have HNY := Aside0.mk hny
            have HRL := Aside0.mk hrrl
            have HLY := Aside0.mk ly
            have HFE := Aside0.mk hF
            have HTK3 : Aside0 (u2.rs.take (k3 + 1) = u2.rs.take k3 ++ [ya :: yr]) := ⟨by rw [List.take_add_one, ← List.head?_drop, hdy]; rfl⟩
            have HY2 := Aside0.mk hy2
            clear es' Cs' Cy hgm hrrl hdy hgy lz ly hny hF e0 e1 e2 hy1 hy2
            go_wp2
            clear l0
            have HB := Aside0.mk (below_drew (Below.refl wo.heap.size wo))
            refine start_ (n := 11) (S := fun w' => w'.cell? ⟨B, 3, none⟩ = some (.slice A0 u2.ts.length c0) ∧ w'.cell? ⟨B, 4, none⟩ = some (.slice A1 u2.ns.length c1) ∧ w'.cell? ⟨B, 5, none⟩ = some (.slice A2 rr.length c2) ∧ w'.cell? ⟨B, 6, none⟩ = some (.int .i64 0) ∧ w'.cell? adz = some (.string ya)) (ds := [10]) #[false, false, false, false, false, false, false, false, false, false, false] (by kernel_rfl) rfl rfl (KEY.out _ HB.out) (fun hHeld => ?_)
            refine with_tabW bd16Tab bd16Bits (fun HT_ HW_ => ?_)
            generalize World.drew _ = w5 at HB hHeld ⊢
            refine pure_ (i := 0) (N := (some 62)) (v := ?_) (a' := ?_) #[true, false, false, false, false, false, false, false, false, false, false] rfl rfl (any_of HT_.out (by kernel_rfl)) (fun _ _ _ h => h) (Or.inl ⟨by rfl, ?_⟩) ?_ ?_
            rotate_left
            · intro w'
              go_simp
              with_reducible rfl
            rotate_left
            · simp only [Act.put, List.setIfInBounds_toArray, List.set_cons_zero, List.set_cons_succ, i64_w, i32_w]
              rfl
            refine pure_ (i := 1) (N := (some 63)) (v := ?_) (a' := ?_) #[true, true, false, false, false, false, false, false, false, false, false] rfl rfl (any_of HT_.out (by kernel_rfl)) (fun _ _ _ h => h) (Or.inl ⟨by rfl, ?_⟩) ?_ ?_
            rotate_left
            · intro w'
              go_simp
              with_reducible rfl
            rotate_left
            · simp only [Act.put, List.setIfInBounds_toArray, List.set_cons_zero, List.set_cons_succ, i64_w, i32_w]
              rfl
            refine pure_ (i := 2) (N := (some 64)) (v := ?_) (a' := ?_) #[true, true, true, false, false, false, false, false, false, false, false] rfl rfl (any_of HT_.out (by kernel_rfl)) (fun _ _ _ h => h) (Or.inl ⟨by rfl, ?_⟩) ?_ ?_
            rotate_left
            · intro w'
              go_simp
              with_reducible rfl
            rotate_left
            · simp only [Act.put, List.setIfInBounds_toArray, List.set_cons_zero, List.set_cons_succ, i64_w, i32_w]
              rfl
            refine take_ (i := 3) (N := (some 65)) (v := ?_) (a' := ?_) #[true, true, true, true, false, false, false, false, false, false, false] rfl rfl (take_ofW HT_.out HW_.out (by kernel_rfl)) (fun _ _ _ h => h) (Or.inl ⟨by rfl, ?_⟩) hHeld ?_ ?_
            rotate_left
            · rintro w' ⟨s0, s1, s2, s3, s4⟩
              go_simp
              with_reducible rfl
            rotate_left
            · simp only [Act.put, List.setIfInBounds_toArray, List.set_cons_zero, List.set_cons_succ, i64_w, i32_w]
              rfl
            refine pure_ (i := 4) (N := (some 66)) (v := ?_) (a' := ?_) #[true, true, true, true, true, false, false, false, false, false, false] rfl rfl (any_of HT_.out (by kernel_rfl)) (fun _ _ _ h => h) (Or.inl ⟨by rfl, ?_⟩) ?_ ?_
            rotate_left
            · intro w'
              go_simp
              with_reducible rfl
            rotate_left
            · simp only [Act.put, List.setIfInBounds_toArray, List.set_cons_zero, List.set_cons_succ, i64_w, i32_w]
              rfl
            refine pure_ (i := 5) (N := (some 67)) (v := ?_) (a' := ?_) #[true, true, true, true, true, true, false, false, false, false, false] rfl rfl (any_of HT_.out (by kernel_rfl)) (fun _ _ _ h => h) (Or.inl ⟨by rfl, ?_⟩) ?_ ?_
            rotate_left
            · intro w'
              go_simp
              with_reducible rfl
            rotate_left
            · simp only [Act.put, List.setIfInBounds_toArray, List.set_cons_zero, List.set_cons_succ, i64_w, i32_w]
              rfl
            refine take_ (i := 6) (N := (some 68)) (v := ?_) (a' := ?_) #[true, true, true, true, true, true, true, false, false, false, false] rfl rfl (take_ofW HT_.out HW_.out (by kernel_rfl)) (fun _ _ _ h => h) (Or.inl ⟨by rfl, ?_⟩) hHeld ?_ ?_
            rotate_left
            · rintro w' ⟨s0, s1, s2, s3, s4⟩
              go_simp
              with_reducible rfl
            rotate_left
            · simp only [Act.put, List.setIfInBounds_toArray, List.set_cons_zero, List.set_cons_succ, i64_w, i32_w]
              rfl
            refine join_ (σ := Nat) 1 #[true, true, true, true, true, true, true, true, true, true, false] (fun s => [(69, .int .i64 F), (70, .agg #[.int .i64 F, .slice none 0 0]), (10, .pointer (some ⟨s, 0, none⟩))]) (fun s w' => Aside0 (Below wo.heap.size wo w') ∧ Aside0 (w'.heap[s]? = some (.cells #[.int .i64 0, .slice none 0 0] 40 (0, 0))) ∧ Aside0 (wo.heap.size ≤ s)) ?_ (fun hJ => ?_)
            rotate_left
            refine two_ (i := 7) (j := 9) (Ni := (some 69)) (Nj := (some 10)) (ds := [10]) #[true, true, true, true, true, true, true, true, false, false, false] #[true, true, true, true, true, true, true, false, false, true, false] rfl rfl rfl rfl (two_of HT_.out (by kernel_rfl)) (by decide) (by decide) (fun K hK => ?_) (fun K hK => ?_)
            · refine goes_ Tryz.func66 (by kernel_rfl) rfl #[.agg #[.slice A0 u2.ts.length c0, .slice A1 u2.ns.length c1, .slice A2 rr.length c2, .int .i64 0], .string ya] (by rfl) rfl rfl (by first | rfl | (simp [Act.eval]; done) | (simp [Act.eval]; rfl)) ?_
              refine (KF.out _ HB.out).mono ?_
              rintro e w6 ⟨rfl, h6⟩
              refine ⟨_, rfl, ?_⟩
              have n1_ := Aside0.mk (HB.out.trans (h6.mono HB.out.size))
              clear HB h6
              have HB := n1_
              clear n1_
              refine hK.out _ _ (KEY.out _ HB.out) (fun hHeld => ?_)
              clear hK K
              refine norm_ (a' := ?_) ?_ ?_
              rotate_left
              · show Act.put _ (some 69) _ = _
                simp only [Act.put, List.setIfInBounds_toArray, List.set_cons_zero, List.set_cons_succ, i64_w, i32_w]
                rfl
              refine pure_ (i := 8) (N := (some 70)) (v := ?_) (a' := ?_) #[true, true, true, true, true, true, true, true, true, false, false] rfl rfl (any_of HT_.out (by kernel_rfl)) (fun _ _ _ h => h) (Or.inl ⟨by rfl, ?_⟩) ?_ ?_
              rotate_left
              · intro w'
                go_simp
                with_reducible rfl
              rotate_left
              · simp only [Act.put, List.setIfInBounds_toArray, List.set_cons_zero, List.set_cons_succ, i64_w, i32_w]
                rfl
              refine one_ (i := 9) (N := (some 10)) #[true, true, true, true, true, true, true, true, true, true, false] rfl rfl (one_of HT_.out (by kernel_rfl)) (by decide) (fun K hK => ?_)
              refine value_ (by rfl) rfl (v := .pointer (some ⟨w6.heap.size, 0, none⟩)) (w1 := w6.alloc (.cells #[.int .i64 0, .slice none 0 0] 40 (0, 0))) ?hrun ?_; (case hrun => first | (go_simp; done) | (go_simp; rfl))
              have HN := Aside0.mk (blk_new w6 (.cells #[.int .i64 0, .slice none 0 0] 40 (0, 0)))
              have HNS : Aside0 (wo.heap.size ≤ w6.heap.size) := ⟨HB.out.size⟩
              have n1_ := Aside0.mk (below_alloc HB.out (.cells #[.int .i64 0, .slice none 0 0] 40 (0, 0)))
              clear HB
              have HB := n1_
              clear n1_
              refine hK.out _ _ (KEY.out _ HB.out) (fun hHeld => ?_)
              clear hK K
              refine norm_ (a' := ?_) ?_ ?_
              rotate_left
              · show Act.put _ (some 10) _ = _
                simp only [Act.put, List.setIfInBounds_toArray, List.set_cons_zero, List.set_cons_succ, i64_w, i32_w]
                rfl
              have := hJ _ _ ⟨HB, HN, HNS⟩
              exact this
            · refine value_ (by rfl) rfl (v := .pointer (some ⟨w5.heap.size, 0, none⟩)) (w1 := w5.alloc (.cells #[.int .i64 0, .slice none 0 0] 40 (0, 0))) ?hrun ?_; (case hrun => first | (go_simp; done) | (go_simp; rfl))
              have HN := Aside0.mk (blk_new w5 (.cells #[.int .i64 0, .slice none 0 0] 40 (0, 0)))
              have HNS : Aside0 (wo.heap.size ≤ w5.heap.size) := ⟨HB.out.size⟩
              have n1_ := Aside0.mk (below_alloc HB.out (.cells #[.int .i64 0, .slice none 0 0] 40 (0, 0)))
              clear HB
              have HB := n1_
              clear n1_
              refine hK.out _ _ (KEY.out _ HB.out) (fun hHeld => ?_)
              clear hK K
              refine norm_ (a' := ?_) ?_ ?_
              rotate_left
              · show Act.put _ (some 10) _ = _
                simp only [Act.put, List.setIfInBounds_toArray, List.set_cons_zero, List.set_cons_succ, i64_w, i32_w]
                rfl
              refine one_ (i := 7) (N := (some 69)) #[true, true, true, true, true, true, true, true, false, true, false] rfl rfl (one_of HT_.out (by kernel_rfl)) (by decide) (fun K hK => ?_)
              refine goes_ Tryz.func66 (by kernel_rfl) rfl #[.agg #[.slice A0 u2.ts.length c0, .slice A1 u2.ns.length c1, .slice A2 rr.length c2, .int .i64 0], .string ya] (by rfl) rfl rfl (by first | rfl | (simp [Act.eval]; done) | (simp [Act.eval]; rfl)) ?_
              refine (KF.out _ HB.out).mono ?_
              rintro e w6 ⟨rfl, h6⟩
              refine ⟨_, rfl, ?_⟩
              have n1_ := Aside0.mk (HB.out.trans (h6.mono HB.out.size))
              have n2_ := Aside0.mk (blk_below HN.out h6)
              clear HN
              have HN := n2_
              clear n2_
              clear HB h6
              have HB := n1_
              clear n1_
              refine hK.out _ _ (KEY.out _ HB.out) (fun hHeld => ?_)
              clear hK K
              refine norm_ (a' := ?_) ?_ ?_
              rotate_left
              · show Act.put _ (some 69) _ = _
                simp only [Act.put, List.setIfInBounds_toArray, List.set_cons_zero, List.set_cons_succ, i64_w, i32_w]
                rfl
              refine pure_ (i := 8) (N := (some 70)) (v := ?_) (a' := ?_) #[true, true, true, true, true, true, true, true, true, true, false] rfl rfl (any_of HT_.out (by kernel_rfl)) (fun _ _ _ h => h) (Or.inl ⟨by rfl, ?_⟩) ?_ ?_
              rotate_left
              · intro w'
                go_simp
                with_reducible rfl
              rotate_left
              · simp only [Act.put, List.setIfInBounds_toArray, List.set_cons_zero, List.set_cons_succ, i64_w, i32_w]
                rfl
              have := hJ _ _ ⟨HB, HN, HNS⟩
              exact this
            rintro g w9 ⟨HB_, HN, HNS⟩
            clear HB
            have HB : Aside0 (Below wo.heap.size wo w9) := HB_
            clear HB_
            refine norm_ (a' := ?_) ?_ ?_
            rotate_left
            · simp only [Go.Proofs.YtliofoikejdjeaaGreatW.PrintLast.putAll, Act.put, List.setIfInBounds_toArray, List.set_cons_zero, List.set_cons_succ, i64_w, i32_w]
              rfl
            refine last_ (i := 10) (N := none) #[true, true, true, true, true, true, true, true, true, true, true] rfl rfl (one_of HT_.out (by kernel_rfl)) (by decide) (fun K hK => ?_)
            have g0_ := (blk_cell HN.out 0).trans rfl
            have g1_ := (blk_cell HN.out 1).trans rfl
            have f0 := blk_frozen HN.out 0
            have f1 := blk_frozen HN.out 1
            refine skip_ (by rfl) rfl (w1 := (w9.setCell ⟨g, 0, none⟩ (.int .i64 F)).setCell ⟨g, 1, none⟩ (.slice none 0 0)) ?hrun ?_; (case hrun => first | (go_simp; done) | (go_simp; rfl))
            have n2_ := Aside0.mk (blk_set (blk_set HN.out 0 (.int .i64 F)) 1 (.slice none 0 0))
            have n1_ := Aside0.mk ((HB.out.setCell (p := ⟨g, 0, none⟩) HNS.out (.int .i64 F)).setCell (p := ⟨g, 1, none⟩) HNS.out (.slice none 0 0))
            clear HN HB g0_ g1_ f0 f1
            have HN := n2_
            have HB := n1_
            clear n1_ n2_
            refine hK.out _ _ ?_
            clear hK K
            refine done_ (done_of HT_.out (by kernel_rfl)) ?_
            have hcy : ny ≤ cy := by have := HLY.out; have := HNY.out; omega
            have hny1 : (1 : Int) ≤ (ny : Int) := by omega
            have hcy1 : (1 : Int) ≤ (cy : Int) := by omega
            have hnc : (ny : Int) ≤ (cy : Int) := by omega
            generalize World.setCell (World.setCell w9 _ _) _ _ = wb at HN HB ⊢
            obtain ⟨n1, hn1⟩ : ∃ n1, yr.length = n1 := ⟨_, rfl⟩
            have hny2 : ny = n1 + 1 := by have := HNY.out; simp only [List.length_cons] at this; omega
            subst hny2
            have HN1 := Aside0.mk hn1
            have HFS : Aside0 (FS wo wb g F [] (.slice none 0 0)) := ⟨⟨HB.out, HNS.out, HN.out, Kd.R_nil _ _ _ _ _⟩⟩
            have hn1z : (n1 : Int) ≤ 10000 := by have := HNY.out; have := HY2.out; omega
            clear HN HB hn1 hny1
            by_cases hc1 : cy = 1
            · subst hc1
              obtain rfl : n1 = 0 := by omega
              have HC7 : Aside0 (Kd.C Kd.string wo (some adz) yr.length yr) := ⟨by
                have := HN1.out
                obtain rfl : yr = [] := List.eq_nil_of_length_eq_zero this
                exact ⟨rfl, Nat.zero_le _, fun hp => absurd hp (Nat.lt_irrefl 0)⟩⟩
              go_wp2
              go_loopg [74] 0 (fun g4 v74 wi => v74 = .int .i64 0 ∧ Aside0 (FS wo wi g F [] (.slice none 0 0)))
              case atStart => exact ⟨rfl, HFS⟩
              case round =>
                clear HFS
                obtain ⟨rfl, HF⟩ := hrel
                obtain ⟨xs, hxs⟩ : ∃ xs : List Int, xs = [] := ⟨_, rfl⟩
                have HXE : Aside0 (xs = yr.map (findB u2.ts u2.ns)) := ⟨by
                  have := HN1.out
                  obtain rfl : yr = [] := List.eq_nil_of_length_eq_zero this
                  exact hxs⟩
                rw [← hxs] at HF
                have HXL : Aside0 (xs.length ≤ 10001) := ⟨by rw [hxs]; exact Nat.zero_le _⟩
                obtain ⟨vX, hvX⟩ : ∃ vX, Value.slice none 0 0 = vX := ⟨_, rfl⟩
                rw [hvX] at HF
                clear hxs hvX
                have HNE : Aside0 (some g ≠ vR.ownBlock) := ⟨fun e => by have := Kd.R_lt HG.out.rules _ e.symm; have := HF.out.hg; omega⟩
                have HGRB : Aside0 (gr ≠ B) := ⟨fun e => by
                  have h1 := HZ.out
                  rw [e, HG.out.blk] at h1
                  injection h1 with h1
                  injection h1 with _ h1
                  exact absurd h1 (by decide)⟩
                obtain ⟨AX, cX, eX⟩ := Kd.R_slice HF.out.row
                subst eX
                go_wp2
                have HGI := Aside0.mk (HG.out.later (HF.out.later (below_drew (Below.refl _ _))).below)
                have HZI := Aside0.mk (blk_below HZ.out (HF.out.later (below_drew (Below.refl _ _))).below)
                have n1_ := Aside0.mk (HF.out.later (below_drew (Below.refl _ _)))
                clear HF
                have HF := n1_
                clear n1_
                refine start_ (n := 13) (S := fun w' => w'.cell? ⟨B, 5, none⟩ = some vR ∧ w'.cell? ⟨g, 0, none⟩ = some (.int .i64 F) ∧ w'.cell? ⟨g, 1, none⟩ = some (.slice AX xs.length cX)) (ds := [12]) #[false, false, false, false, false, false, false, false, false, false, false, false, false] (by kernel_rfl) rfl rfl ⟨HGI.out.cells.2.2.2.1, (blk_cell HF.out.blk 0).trans rfl, (blk_cell HF.out.blk 1).trans rfl⟩ (fun hHeld => ?_)
                refine with_tabW bd22Tab bd22Bits (fun HT_ HW_ => ?_)
                generalize World.drew _ = w5 at HGI HF HZI hHeld ⊢
                refine pure_ (i := 0) (N := (some 90)) (v := ?_) (a' := ?_) #[true, false, false, false, false, false, false, false, false, false, false, false, false] rfl rfl (any_of HT_.out (by kernel_rfl)) (fun _ _ _ h => h) (Or.inl ⟨by rfl, ?_⟩) ?_ ?_
                rotate_left
                · intro w'
                  go_simp
                  with_reducible rfl
                rotate_left
                · simp only [Act.put, List.setIfInBounds_toArray, List.set_cons_zero, List.set_cons_succ, i64_w, i32_w]
                  rfl
                refine pure_ (i := 1) (N := (some 91)) (v := ?_) (a' := ?_) #[true, true, false, false, false, false, false, false, false, false, false, false, false] rfl rfl (any_of HT_.out (by kernel_rfl)) (fun _ _ _ h => h) (Or.inl ⟨by rfl, ?_⟩) ?_ ?_
                rotate_left
                · intro w'
                  go_simp
                  with_reducible rfl
                rotate_left
                · simp only [Act.put, List.setIfInBounds_toArray, List.set_cons_zero, List.set_cons_succ, i64_w, i32_w]
                  rfl
                refine pure_ (i := 2) (N := (some 92)) (v := ?_) (a' := ?_) #[true, true, true, false, false, false, false, false, false, false, false, false, false] rfl rfl (any_of HT_.out (by kernel_rfl)) (fun _ _ _ h => h) (Or.inl ⟨by rfl, ?_⟩) ?_ ?_
                rotate_left
                · intro w'
                  go_simp
                  with_reducible rfl
                rotate_left
                · simp only [Act.put, List.setIfInBounds_toArray, List.set_cons_zero, List.set_cons_succ, i64_w, i32_w]
                  rfl
                refine pure_ (i := 3) (N := (some 93)) (v := ?_) (a' := ?_) #[true, true, true, true, false, false, false, false, false, false, false, false, false] rfl rfl (any_of HT_.out (by kernel_rfl)) (fun _ _ _ h => h) (Or.inl ⟨by rfl, ?_⟩) ?_ ?_
                rotate_left
                · intro w'
                  go_simp
                  with_reducible rfl
                rotate_left
                · simp only [Act.put, List.setIfInBounds_toArray, List.set_cons_zero, List.set_cons_succ, i64_w, i32_w]
                  rfl
                refine pure_ (i := 4) (N := (some 94)) (v := ?_) (a' := ?_) #[true, true, true, true, true, false, false, false, false, false, false, false, false] rfl rfl (any_of HT_.out (by kernel_rfl)) (fun _ _ _ h => h) (Or.inl ⟨by rfl, ?_⟩) ?_ ?_
                rotate_left
                · intro w'
                  go_simp
                  with_reducible rfl
                rotate_left
                · simp only [Act.put, List.setIfInBounds_toArray, List.set_cons_zero, List.set_cons_succ, i64_w, i32_w]
                  rfl
                refine take_ (i := 5) (N := (some 95)) (v := ?_) (a' := ?_) #[true, true, true, true, true, true, false, false, false, false, false, false, false] rfl rfl (take_ofW HT_.out HW_.out (by kernel_rfl)) (fun _ _ _ h => h) (Or.inl ⟨by rfl, ?_⟩) hHeld ?_ ?_
                rotate_left
                · rintro w' ⟨s0, s1, s2⟩
                  go_simp
                  with_reducible rfl
                rotate_left
                · simp only [Act.put, List.setIfInBounds_toArray, List.set_cons_zero, List.set_cons_succ, i64_w, i32_w]
                  rfl
                refine take_ (i := 6) (N := (some 96)) (v := ?_) (a' := ?_) #[true, true, true, true, true, true, true, false, false, false, false, false, false] rfl rfl (take_ofW HT_.out HW_.out (by kernel_rfl)) (fun _ _ _ h => h) (Or.inl ⟨by rfl, ?_⟩) hHeld ?_ ?_
                rotate_left
                · rintro w' ⟨s0, s1, s2⟩
                  go_simp
                  with_reducible rfl
                rotate_left
                · simp only [Act.put, List.setIfInBounds_toArray, List.set_cons_zero, List.set_cons_succ, i64_w, i32_w]
                  rfl
                refine one_ (i := 7) (N := (some 97)) #[true, true, true, true, true, true, true, true, false, false, false, false, false] rfl rfl (one_of HT_.out (by kernel_rfl)) (by decide) (fun K hK => ?_)
                have HM := Aside0.mk (HF.out.made HG.out.rules HG.out.below.size)
                refine Kd.R_lit_step kRl (w0 := w5) W1.heap.size 40 ?hg (N := 97) ?hd (xs := [(⟨F, xs⟩ : Rl)]) (inner := [.int .i64 F, .slice AX xs.length cX]) (ok := fun k => some k ≠ vR.ownBlock) (okp := fun k => some k ≠ vR.ownBlock) ?hr ?hp (fun _ hk => hk) (fun he => by have := Kd.R_lt HGI.out.rules _ he.symm; omega) (Below.refl _ _) HGI.out.below.size (by simp) ?_; (case hd => rfl); (case hg => rfl); (case hr => first | (go_simp; done) | (go_simp; rfl)); (case hp => exact (Reps.snoc (Reps.none _ _) HM.out rfl))
                intro vL w7 ho hb hg hnew
                obtain ⟨A8, c8, e8, C8⟩ := lits_rows ho
                subst e8
                have hgn := grown_none hg
                have n1_ := Aside0.mk (HGI.out.later hgn)
                have n2_ := Aside0.mk (HF.out.later hgn)
                have n3_ := Aside0.mk (blk_below HZI.out hgn)
                have HX := Aside0.mk C8
                clear HGI HF HZI HM ho hb hg hnew C8 hgn
                have HGI := n1_
                have HF := n2_
                have HZI := n3_
                clear n1_ n2_ n3_
                refine hK.out _ _ ⟨HGI.out.cells.2.2.2.1, (blk_cell HF.out.blk 0).trans rfl, (blk_cell HF.out.blk 1).trans rfl⟩ (fun hHeld => ?_)
                clear hK K
                refine norm_ (a' := ?_) ?_ ?_
                rotate_left
                · show Act.put _ (some 97) _ = _
                  simp only [Act.put, List.setIfInBounds_toArray, List.set_cons_zero, List.set_cons_succ, i64_w, i32_w]
                  rfl
                refine one_ (i := 8) (N := (some 98)) #[true, true, true, true, true, true, true, true, true, false, false, false, false] rfl rfl (one_of HT_.out (by kernel_rfl)) (by decide) (fun K hK => ?_)
                refine Kd.R_append_rows_step kRl (w0 := w7) W1.heap.size (by rfl) (.tmp 95) (.tmp 97) 23 40 (.agg #[.int .i64 0, .slice none 0 0]) 32 rfl Tryz.underlying23 infoRl rfl (by decide) (by omega) vR rr [(⟨F, xs⟩ : Rl)] _ _ _ (fun _ => True) (fun k => some k ≠ vR.ownBlock) rfl rfl HGI.out.rules HX.out (fun p cs hp => kRl.M_mono (fun k hk => hk.1) hp) (fun _ h => ⟨trivial, h⟩) (fun _ _ => trivial) (Below.refl _ _) HGI.out.below.size ?aL ?_
                case aL => have := HRL.out; simp only [List.length_cons, List.length_nil]; omega
                intro vN w8 ho hb hg hat
                have HP := Aside0.mk (HGI.out.putR ho hg)
                have n2_ := Aside0.mk (blk_grown HF.out.blk hg HNE.out)
                have n3_ := Aside0.mk (blk_grown HZI.out hg (Kd.R_ne HGI.out.rules HZI.out (by decide)))
                have HSL := Aside0.mk (Kd.R_slice ho)
                clear HGI HF HZI HX ho hb hg hat
                have HF := n2_
                have HZI := n3_
                clear n2_ n3_
                refine hK.out _ _ ⟨(blk_cell HP.out.1 5).trans rfl, (blk_cell HF.out 0).trans rfl, (blk_cell HF.out 1).trans rfl⟩ (fun hHeld => ?_)
                clear hK K
                refine norm_ (a' := ?_) ?_ ?_
                rotate_left
                · show Act.put _ (some 98) _ = _
                  simp only [Act.put, List.setIfInBounds_toArray, List.set_cons_zero, List.set_cons_succ, i64_w, i32_w]
                  rfl
                refine pure_ (i := 9) (N := (some 99)) (v := ?_) (a' := ?_) #[true, true, true, true, true, true, true, true, true, true, false, false, false] rfl rfl (any_of HT_.out (by kernel_rfl)) (fun _ _ _ h => h) (Or.inl ⟨by rfl, ?_⟩) ?_ ?_
                rotate_left
                · intro w'
                  go_simp
                  with_reducible rfl
                rotate_left
                · simp only [Act.put, List.setIfInBounds_toArray, List.set_cons_zero, List.set_cons_succ, i64_w, i32_w]
                  rfl
                refine pure_ (i := 10) (N := (some 100)) (v := ?_) (a' := ?_) #[true, true, true, true, true, true, true, true, true, true, true, false, false] rfl rfl (any_of HT_.out (by kernel_rfl)) (fun _ _ _ h => h) (Or.inl ⟨by rfl, ?_⟩) ?_ ?_
                rotate_left
                · intro w'
                  go_simp
                  with_reducible rfl
                rotate_left
                · simp only [Act.put, List.setIfInBounds_toArray, List.set_cons_zero, List.set_cons_succ, i64_w, i32_w]
                  rfl
                refine pure_ (i := 11) (N := (some 101)) (v := ?_) (a' := ?_) #[true, true, true, true, true, true, true, true, true, true, true, true, false] rfl rfl (any_of HT_.out (by kernel_rfl)) (fun _ _ _ h => h) (Or.inl ⟨by rfl, ?_⟩) ?_ ?_
                rotate_left
                · intro w'
                  go_simp
                  with_reducible rfl
                rotate_left
                · simp only [Act.put, List.setIfInBounds_toArray, List.set_cons_zero, List.set_cons_succ, i64_w, i32_w]
                  rfl
                refine last_ (i := 12) (N := none) #[true, true, true, true, true, true, true, true, true, true, true, true, true] rfl rfl (one_of HT_.out (by kernel_rfl)) (by decide) (fun K hK => ?_)
                have f0 := (blk_cell HP.out.1 5).trans rfl
                have f1 := blk_frozen HP.out.1 5
                refine skip_ (by rfl) rfl (w1 := w8.setCell ⟨B, 5, none⟩ vN) ?hrun ?_; (case hrun => obtain ⟨An, cn, en⟩ : ∃ An cn, vN = .slice An (rr ++ [(⟨F, xs⟩ : Rl)]).length cn := HSL.out; subst en; first | (go_simp; done) | (go_simp; rfl))
                have HG3 := Aside0.mk HP.out.2
                have HZ3 := Aside0.mk (blk_far (p := ⟨B, 5, none⟩) HZI.out HGRB.out vN)
                clear f0 f1 HP HSL HZI HF
                refine hK.out _ _ ?_
                clear hK K
                refine done_ (done_of HT_.out (by kernel_rfl)) ?_
                go_wp2
                go_roundg (u2.rs.length - (k3 + 1))
                case measure => omega
                case rel => exact ⟨k3 + 1, rr ++ [(⟨F, xs⟩ : Rl)], vN, by omega, Nat.le_refl _, (by first | go_num | exact congrArg (Value.int IntKind.i64) (show wrap64 ((k3 : Int) + 1) = ((k3 + 1 : Nat) : Int) from by unfold wrap64; omega)), ⟨by rw [HTK3.out, List.map_append, ← HRR.out, HXE.out, ← HFE.out]; rfl⟩, HG3, HZ3⟩
            · have hc2 : (1 : Int) < (cy : Int) := by omega
              have hc3 : ¬ (cy : Int) - 1 = 0 := by omega
              have hc4 : ¬ (cy : Int) = 1 := by omega
              have HC7 : Aside0 (Kd.C Kd.string wo (some ⟨adz.block, adz.off + 1, none⟩) yr.length yr) := ⟨C_tail HCY.out⟩
              go_wp2
              go_loopg [74] n1 (fun g4 v74 wi => ∃ (j : Nat) (xs : List Int) (vX : Value), j ≤ n1 ∧ n1 - j ≤ g4 ∧ v74 = .int .i64 j ∧ Aside0 (xs = (yr.take j).map (findB u2.ts u2.ns)) ∧ Aside0 (FS wo wi g F xs vX))
              case atStart => exact ⟨0, [], .slice none 0 0, by omega, by omega, rfl, ⟨rfl⟩, HFS⟩
              case round =>
                clear HFS
                obtain ⟨j, xs, vX, hj, hg4, rfl, HXS, HF⟩ := hrel
                have HXL : Aside0 (xs.length ≤ 10001) := ⟨by rw [HXS.out, List.length_map, List.length_take]; omega⟩
                by_cases hlj : (j : Int) < (n1 : Int)
                · obtain ⟨s, hs⟩ : ∃ s, yr.getD j default = s := ⟨_, rfl⟩
                  obtain ⟨adj, ej, lj⟩ := at_str HC7.out j (by rw [HN1.out]; omega)
                  obtain rfl := Option.some.inj ej
                  rw [hs, add_flat] at lj
                  have lk := (HF.out.below.cell (World.block_lt_of_cell? _ _ lj)).trans lj
                  clear lj
                  have HJ : Aside0 (yr.take (j + 1) = yr.take j ++ [s]) := ⟨by
                    have hjl : j < yr.length := by rw [HN1.out]; omega
                    rw [List.take_succ_eq_append_getElem hjl, ← hs, List.getD_eq_getElem?_getD, List.getElem?_eq_getElem hjl]
                    rfl⟩
                  obtain ⟨F2, hF2⟩ : ∃ F2, findB u2.ts u2.ns s = F2 := ⟨_, rfl⟩
                  have KF2 : Aside0 (∀ w', Below wo.heap.size wo w' → Calls Tryz.prog 66 #[.agg #[.slice A0 u2.ts.length c0, .slice A1 u2.ns.length c1, .slice A2 rr.length c2, .int .i64 0], .string s] w' fun e w'' => e = .returned (.int .i64 F2) ∧ Below w'.heap.size w' w'') := ⟨fun w' hw => (gram_find (ts := u2.ts) (ns := u2.ns) s (Kd.C_below HGM.out.terms hw) (Kd.C_below HGM.out.nons hw) (by omega) (by omega)).mono (fun e w'' hh => ⟨hF2 ▸ hh.1, hh.2 ▸ below_alloc (Below.refl _ _) _⟩)⟩
                  have HF2 := Aside0.mk hF2
                  clear ej hs hF2
                  go_wp2
                  clear lk
                  have n1_ := Aside0.mk (HF.out.later (below_drew (Below.refl _ _)))
                  clear HF
                  have HF := n1_
                  clear n1_
                  refine start_ (n := 12) (S := fun w' => w'.cell? ⟨g, 1, none⟩ = some vX ∧ w'.cell? ⟨B, 3, none⟩ = some (.slice A0 u2.ts.length c0) ∧ w'.cell? ⟨B, 4, none⟩ = some (.slice A1 u2.ns.length c1) ∧ w'.cell? ⟨B, 5, none⟩ = some (.slice A2 rr.length c2) ∧ w'.cell? ⟨B, 6, none⟩ = some (.int .i64 0) ∧ w'.cell? adz = some (.string ya)) (ds := [11]) #[false, false, false, false, false, false, false, false, false, false, false, false] (by kernel_rfl) rfl rfl ⟨(blk_cell HF.out.blk 1).trans rfl, KEY.out _ HF.out.below⟩ (fun hHeld => ?_)
                  refine with_tabW bd20Tab bd20Bits (fun HT_ HW_ => ?_)
                  generalize World.drew _ = w5 at HF hHeld ⊢
                  refine pure_ (i := 0) (N := (some 78)) (v := ?_) (a' := ?_) #[true, false, false, false, false, false, false, false, false, false, false, false] rfl rfl (any_of HT_.out (by kernel_rfl)) (fun _ _ _ h => h) (Or.inl ⟨by rfl, ?_⟩) ?_ ?_
                  rotate_left
                  · intro w'
                    go_simp
                    with_reducible rfl
                  rotate_left
                  · simp only [Act.put, List.setIfInBounds_toArray, List.set_cons_zero, List.set_cons_succ, i64_w, i32_w]
                    rfl
                  refine take_ (i := 1) (N := (some 79)) (v := ?_) (a' := ?_) #[true, true, false, false, false, false, false, false, false, false, false, false] rfl rfl (take_ofW HT_.out HW_.out (by kernel_rfl)) (fun _ _ _ h => h) (Or.inl ⟨by rfl, ?_⟩) hHeld ?_ ?_
                  rotate_left
                  · rintro w' ⟨s0, s1, s2, s3, s4, s5⟩
                    go_simp
                    with_reducible rfl
                  rotate_left
                  · simp only [Act.put, List.setIfInBounds_toArray, List.set_cons_zero, List.set_cons_succ, i64_w, i32_w]
                    rfl
                  refine pure_ (i := 2) (N := (some 80)) (v := ?_) (a' := ?_) #[true, true, true, false, false, false, false, false, false, false, false, false] rfl rfl (any_of HT_.out (by kernel_rfl)) (fun _ _ _ h => h) (Or.inl ⟨by rfl, ?_⟩) ?_ ?_
                  rotate_left
                  · intro w'
                    go_simp
                    with_reducible rfl
                  rotate_left
                  · simp only [Act.put, List.setIfInBounds_toArray, List.set_cons_zero, List.set_cons_succ, i64_w, i32_w]
                    rfl
                  refine pure_ (i := 3) (N := (some 81)) (v := ?_) (a' := ?_) #[true, true, true, true, false, false, false, false, false, false, false, false] rfl rfl (any_of HT_.out (by kernel_rfl)) (fun _ _ _ h => h) (Or.inl ⟨by rfl, ?_⟩) ?_ ?_
                  rotate_left
                  · intro w'
                    go_simp
                    with_reducible rfl
                  rotate_left
                  · simp only [Act.put, List.setIfInBounds_toArray, List.set_cons_zero, List.set_cons_succ, i64_w, i32_w]
                    rfl
                  refine pure_ (i := 4) (N := (some 82)) (v := ?_) (a' := ?_) #[true, true, true, true, true, false, false, false, false, false, false, false] rfl rfl (any_of HT_.out (by kernel_rfl)) (fun _ _ _ h => h) (Or.inl ⟨by rfl, ?_⟩) ?_ ?_
                  rotate_left
                  · intro w'
                    go_simp
                    with_reducible rfl
                  rotate_left
                  · simp only [Act.put, List.setIfInBounds_toArray, List.set_cons_zero, List.set_cons_succ, i64_w, i32_w]
                    rfl
                  refine take_ (i := 5) (N := (some 83)) (v := ?_) (a' := ?_) #[true, true, true, true, true, true, false, false, false, false, false, false] rfl rfl (take_ofW HT_.out HW_.out (by kernel_rfl)) (fun _ _ _ h => h) (Or.inl ⟨by rfl, ?_⟩) hHeld ?_ ?_
                  rotate_left
                  · rintro w' ⟨s0, s1, s2, s3, s4, s5⟩
                    go_simp
                    with_reducible rfl
                  rotate_left
                  · simp only [Act.put, List.setIfInBounds_toArray, List.set_cons_zero, List.set_cons_succ, i64_w, i32_w]
                    rfl
                  refine pure_ (i := 6) (N := (some 84)) (v := ?_) (a' := ?_) #[true, true, true, true, true, true, true, false, false, false, false, false] rfl rfl (any_of HT_.out (by kernel_rfl)) (fun _ _ _ h => h) (Or.inl ⟨by rfl, ?_⟩) ?_ ?_
                  rotate_left
                  · intro w'
                    go_simp
                    with_reducible rfl
                  rotate_left
                  · simp only [Act.put, List.setIfInBounds_toArray, List.set_cons_zero, List.set_cons_succ, i64_w, i32_w]
                    rfl
                  refine one_ (i := 7) (N := (some 85)) #[true, true, true, true, true, true, true, true, false, false, false, false] rfl rfl (one_of HT_.out (by kernel_rfl)) (by decide) (fun K hK => ?_)
                  refine goes_ Tryz.func66 (by kernel_rfl) rfl #[.agg #[.slice A0 u2.ts.length c0, .slice A1 u2.ns.length c1, .slice A2 rr.length c2, .int .i64 0], .string s] (by rfl) rfl rfl (by first | rfl | (simp [Act.eval]; done) | (simp [Act.eval]; rfl)) ?_
                  refine (KF2.out _ HF.out.below).mono ?_
                  rintro e w6 ⟨rfl, h6⟩
                  refine ⟨_, rfl, ?_⟩
                  have n1_ := Aside0.mk (HF.out.later h6)
                  clear HF h6
                  have HF := n1_
                  clear n1_
                  refine hK.out _ _ ⟨(blk_cell HF.out.blk 1).trans rfl, KEY.out _ HF.out.below⟩ (fun hHeld => ?_)
                  clear hK K
                  refine norm_ (a' := ?_) ?_ ?_
                  rotate_left
                  · show Act.put _ (some 85) _ = _
                    simp only [Act.put, List.setIfInBounds_toArray, List.set_cons_zero, List.set_cons_succ, i64_w, i32_w]
                    rfl
                  refine one_ (i := 8) (N := (some 86)) #[true, true, true, true, true, true, true, true, true, false, false, false] rfl rfl (one_of HT_.out (by kernel_rfl)) (by decide) (fun K hK => ?_)
                  refine Kd.R_lit_step (Kd.int .i64) (w0 := w6) w6.heap.size 3 ?hg (N := 86) ?hd (xs := [F2]) (inner := [.int .i64 F2]) (ok := fun _ => True) (okp := fun _ => True) ?hr ?hp (fun _ hk => hk) trivial (Below.refl _ _) (Nat.le_refl _) (by simp) ?_; (case hd => rfl); (case hg => rfl); (case hr => first | (go_simp; done) | (go_simp; rfl)); (case hp => exact (Reps.snoc (Reps.none _ _) rfl rfl))
                  intro vL w7 ho hb hg hnew
                  obtain ⟨A8, c8, e8, l8, C8⟩ := Kd.R_reads ho
                  subst e8
                  have HX := Aside0.mk C8
                  have n1_ := Aside0.mk (HF.out.later (grown_none hg))
                  clear HF ho hb hg hnew C8 l8
                  have HF := n1_
                  clear n1_
                  refine hK.out _ _ ⟨(blk_cell HF.out.blk 1).trans rfl, KEY.out _ HF.out.below⟩ (fun hHeld => ?_)
                  clear hK K
                  refine norm_ (a' := ?_) ?_ ?_
                  rotate_left
                  · show Act.put _ (some 86) _ = _
                    simp only [Act.put, List.setIfInBounds_toArray, List.set_cons_zero, List.set_cons_succ, i64_w, i32_w]
                    rfl
                  refine one_ (i := 9) (N := (some 87)) #[true, true, true, true, true, true, true, true, true, true, false, false] rfl rfl (one_of HT_.out (by kernel_rfl)) (by decide) (fun K hK => ?_)
                  refine Kd.R_append_rows_step (Kd.int .i64) (w0 := w7) wo.heap.size (by rfl) (.tmp 79) (.tmp 86) 38 3 (.int .i64 0) 8 rfl Tryz.underlying38 info3 rfl (by decide) (by omega) vX xs [F2] _ _ _ (fun _ => True) (fun _ => False) rfl rfl HF.out.row HX.out (fun _ _ h => h) (fun _ h => h.elim) (fun _ _ => trivial) (Below.refl _ _) HF.out.below.size ?aL ?_
                  case aL => have := HXL.out; simp only [List.length_cons, List.length_nil]; omega
                  intro vN w8 ho hb hg hat
                  have HP := Aside0.mk (HF.out.put ho hg)
                  have HSL := Aside0.mk (Kd.R_slice ho)
                  clear HF HX ho hb hg hat
                  refine hK.out _ _ ⟨(blk_cell HP.out.1 1).trans rfl, KEY.out _ HP.out.2.1⟩ (fun hHeld => ?_)
                  clear hK K
                  refine norm_ (a' := ?_) ?_ ?_
                  rotate_left
                  · show Act.put _ (some 87) _ = _
                    simp only [Act.put, List.setIfInBounds_toArray, List.set_cons_zero, List.set_cons_succ, i64_w, i32_w]
                    rfl
                  refine pure_ (i := 10) (N := (some 88)) (v := ?_) (a' := ?_) #[true, true, true, true, true, true, true, true, true, true, true, false] rfl rfl (any_of HT_.out (by kernel_rfl)) (fun _ _ _ h => h) (Or.inl ⟨by rfl, ?_⟩) ?_ ?_
                  rotate_left
                  · intro w'
                    go_simp
                    with_reducible rfl
                  rotate_left
                  · simp only [Act.put, List.setIfInBounds_toArray, List.set_cons_zero, List.set_cons_succ, i64_w, i32_w]
                    rfl
                  refine last_ (i := 11) (N := none) #[true, true, true, true, true, true, true, true, true, true, true, true] rfl rfl (one_of HT_.out (by kernel_rfl)) (by decide) (fun K hK => ?_)
                  have f0 := (blk_cell HP.out.1 1).trans rfl
                  have f1 := blk_frozen HP.out.1 1
                  refine skip_ (by rfl) rfl (w1 := w8.setCell ⟨g, 1, none⟩ vN) ?hrun ?_; (case hrun => obtain ⟨An, cn, en⟩ : ∃ An cn, vN = .slice An (xs ++ [F2]).length cn := HSL.out; subst en; first | (go_simp; done) | (go_simp; rfl))
                  have HF := Aside0.mk HP.out.2.2
                  clear f0 f1 HP HSL
                  refine hK.out _ _ ?_
                  clear hK K
                  refine done_ (done_of HT_.out (by kernel_rfl)) ?_
                  go_wp2
                  go_roundg (n1 - (j + 1))
                  case measure => omega
                  case rel => exact ⟨j + 1, xs ++ [F2], vN, by omega, Nat.le_refl _, (by first | go_num | exact congrArg (Value.int IntKind.i64) (show wrap64 ((j : Int) + 1) = ((j + 1 : Nat) : Int) from by unfold wrap64; omega)), ⟨by rw [HJ.out, List.map_append, ← HXS.out, ← HF2.out]; rfl⟩, HF⟩
                · obtain rfl : j = n1 := by omega
                  have HXE : Aside0 (xs = yr.map (findB u2.ts u2.ns)) := ⟨by rw [HXS.out, List.take_of_length_le (by rw [HN1.out]; exact Nat.le_refl _)]⟩
                  have HNE : Aside0 (some g ≠ vR.ownBlock) := ⟨fun e => by have := Kd.R_lt HG.out.rules _ e.symm; have := HF.out.hg; omega⟩
                  have HGRB : Aside0 (gr ≠ B) := ⟨fun e => by
                    have h1 := HZ.out
                    rw [e, HG.out.blk] at h1
                    injection h1 with h1
                    injection h1 with _ h1
                    exact absurd h1 (by decide)⟩
                  obtain ⟨AX, cX, eX⟩ := Kd.R_slice HF.out.row
                  subst eX
                  go_wp2
                  have HGI := Aside0.mk (HG.out.later (HF.out.later (below_drew (Below.refl _ _))).below)
                  have HZI := Aside0.mk (blk_below HZ.out (HF.out.later (below_drew (Below.refl _ _))).below)
                  have n1_ := Aside0.mk (HF.out.later (below_drew (Below.refl _ _)))
                  clear HF
                  have HF := n1_
                  clear n1_
                  refine start_ (n := 13) (S := fun w' => w'.cell? ⟨B, 5, none⟩ = some vR ∧ w'.cell? ⟨g, 0, none⟩ = some (.int .i64 F) ∧ w'.cell? ⟨g, 1, none⟩ = some (.slice AX xs.length cX)) (ds := [12]) #[false, false, false, false, false, false, false, false, false, false, false, false, false] (by kernel_rfl) rfl rfl ⟨HGI.out.cells.2.2.2.1, (blk_cell HF.out.blk 0).trans rfl, (blk_cell HF.out.blk 1).trans rfl⟩ (fun hHeld => ?_)
                  refine with_tabW bd22Tab bd22Bits (fun HT_ HW_ => ?_)
                  generalize World.drew _ = w5 at HGI HF HZI hHeld ⊢
                  refine pure_ (i := 0) (N := (some 90)) (v := ?_) (a' := ?_) #[true, false, false, false, false, false, false, false, false, false, false, false, false] rfl rfl (any_of HT_.out (by kernel_rfl)) (fun _ _ _ h => h) (Or.inl ⟨by rfl, ?_⟩) ?_ ?_
                  rotate_left
                  · intro w'
                    go_simp
                    with_reducible rfl
                  rotate_left
                  · simp only [Act.put, List.setIfInBounds_toArray, List.set_cons_zero, List.set_cons_succ, i64_w, i32_w]
                    rfl
                  refine pure_ (i := 1) (N := (some 91)) (v := ?_) (a' := ?_) #[true, true, false, false, false, false, false, false, false, false, false, false, false] rfl rfl (any_of HT_.out (by kernel_rfl)) (fun _ _ _ h => h) (Or.inl ⟨by rfl, ?_⟩) ?_ ?_
                  rotate_left
                  · intro w'
                    go_simp
                    with_reducible rfl
                  rotate_left
                  · simp only [Act.put, List.setIfInBounds_toArray, List.set_cons_zero, List.set_cons_succ, i64_w, i32_w]
                    rfl
                  refine pure_ (i := 2) (N := (some 92)) (v := ?_) (a' := ?_) #[true, true, true, false, false, false, false, false, false, false, false, false, false] rfl rfl (any_of HT_.out (by kernel_rfl)) (fun _ _ _ h => h) (Or.inl ⟨by rfl, ?_⟩) ?_ ?_
                  rotate_left
                  · intro w'
                    go_simp
                    with_reducible rfl
                  rotate_left
                  · simp only [Act.put, List.setIfInBounds_toArray, List.set_cons_zero, List.set_cons_succ, i64_w, i32_w]
                    rfl
                  refine pure_ (i := 3) (N := (some 93)) (v := ?_) (a' := ?_) #[true, true, true, true, false, false, false, false, false, false, false, false, false] rfl rfl (any_of HT_.out (by kernel_rfl)) (fun _ _ _ h => h) (Or.inl ⟨by rfl, ?_⟩) ?_ ?_
                  rotate_left
                  · intro w'
                    go_simp
                    with_reducible rfl
                  rotate_left
                  · simp only [Act.put, List.setIfInBounds_toArray, List.set_cons_zero, List.set_cons_succ, i64_w, i32_w]
                    rfl
                  refine pure_ (i := 4) (N := (some 94)) (v := ?_) (a' := ?_) #[true, true, true, true, true, false, false, false, false, false, false, false, false] rfl rfl (any_of HT_.out (by kernel_rfl)) (fun _ _ _ h => h) (Or.inl ⟨by rfl, ?_⟩) ?_ ?_
                  rotate_left
                  · intro w'
                    go_simp
                    with_reducible rfl
                  rotate_left
                  · simp only [Act.put, List.setIfInBounds_toArray, List.set_cons_zero, List.set_cons_succ, i64_w, i32_w]
                    rfl
                  refine take_ (i := 5) (N := (some 95)) (v := ?_) (a' := ?_) #[true, true, true, true, true, true, false, false, false, false, false, false, false] rfl rfl (take_ofW HT_.out HW_.out (by kernel_rfl)) (fun _ _ _ h => h) (Or.inl ⟨by rfl, ?_⟩) hHeld ?_ ?_
                  rotate_left
                  · rintro w' ⟨s0, s1, s2⟩
                    go_simp
                    with_reducible rfl
                  rotate_left
                  · simp only [Act.put, List.setIfInBounds_toArray, List.set_cons_zero, List.set_cons_succ, i64_w, i32_w]
                    rfl
                  refine take_ (i := 6) (N := (some 96)) (v := ?_) (a' := ?_) #[true, true, true, true, true, true, true, false, false, false, false, false, false] rfl rfl (take_ofW HT_.out HW_.out (by kernel_rfl)) (fun _ _ _ h => h) (Or.inl ⟨by rfl, ?_⟩) hHeld ?_ ?_
                  rotate_left
                  · rintro w' ⟨s0, s1, s2⟩
                    go_simp
                    with_reducible rfl
                  rotate_left
                  · simp only [Act.put, List.setIfInBounds_toArray, List.set_cons_zero, List.set_cons_succ, i64_w, i32_w]
                    rfl
                  refine one_ (i := 7) (N := (some 97)) #[true, true, true, true, true, true, true, true, false, false, false, false, false] rfl rfl (one_of HT_.out (by kernel_rfl)) (by decide) (fun K hK => ?_)
                  have HM := Aside0.mk (HF.out.made HG.out.rules HG.out.below.size)
                  refine Kd.R_lit_step kRl (w0 := w5) W1.heap.size 40 ?hg (N := 97) ?hd (xs := [(⟨F, xs⟩ : Rl)]) (inner := [.int .i64 F, .slice AX xs.length cX]) (ok := fun k => some k ≠ vR.ownBlock) (okp := fun k => some k ≠ vR.ownBlock) ?hr ?hp (fun _ hk => hk) (fun he => by have := Kd.R_lt HGI.out.rules _ he.symm; omega) (Below.refl _ _) HGI.out.below.size (by simp) ?_; (case hd => rfl); (case hg => rfl); (case hr => first | (go_simp; done) | (go_simp; rfl)); (case hp => exact (Reps.snoc (Reps.none _ _) HM.out rfl))
                  intro vL w7 ho hb hg hnew
                  obtain ⟨A8, c8, e8, C8⟩ := lits_rows ho
                  subst e8
                  have hgn := grown_none hg
                  have n1_ := Aside0.mk (HGI.out.later hgn)
                  have n2_ := Aside0.mk (HF.out.later hgn)
                  have n3_ := Aside0.mk (blk_below HZI.out hgn)
                  have HX := Aside0.mk C8
                  clear HGI HF HZI HM ho hb hg hnew C8 hgn
                  have HGI := n1_
                  have HF := n2_
                  have HZI := n3_
                  clear n1_ n2_ n3_
                  refine hK.out _ _ ⟨HGI.out.cells.2.2.2.1, (blk_cell HF.out.blk 0).trans rfl, (blk_cell HF.out.blk 1).trans rfl⟩ (fun hHeld => ?_)
                  clear hK K
                  refine norm_ (a' := ?_) ?_ ?_
                  rotate_left
                  · show Act.put _ (some 97) _ = _
                    simp only [Act.put, List.setIfInBounds_toArray, List.set_cons_zero, List.set_cons_succ, i64_w, i32_w]
                    rfl
                  refine one_ (i := 8) (N := (some 98)) #[true, true, true, true, true, true, true, true, true, false, false, false, false] rfl rfl (one_of HT_.out (by kernel_rfl)) (by decide) (fun K hK => ?_)
                  refine Kd.R_append_rows_step kRl (w0 := w7) W1.heap.size (by rfl) (.tmp 95) (.tmp 97) 23 40 (.agg #[.int .i64 0, .slice none 0 0]) 32 rfl Tryz.underlying23 infoRl rfl (by decide) (by omega) vR rr [(⟨F, xs⟩ : Rl)] _ _ _ (fun _ => True) (fun k => some k ≠ vR.ownBlock) rfl rfl HGI.out.rules HX.out (fun p cs hp => kRl.M_mono (fun k hk => hk.1) hp) (fun _ h => ⟨trivial, h⟩) (fun _ _ => trivial) (Below.refl _ _) HGI.out.below.size ?aL ?_
                  case aL => have := HRL.out; simp only [List.length_cons, List.length_nil]; omega
                  intro vN w8 ho hb hg hat
                  have HP := Aside0.mk (HGI.out.putR ho hg)
                  have n2_ := Aside0.mk (blk_grown HF.out.blk hg HNE.out)
                  have n3_ := Aside0.mk (blk_grown HZI.out hg (Kd.R_ne HGI.out.rules HZI.out (by decide)))
                  have HSL := Aside0.mk (Kd.R_slice ho)
                  clear HGI HF HZI HX ho hb hg hat
                  have HF := n2_
                  have HZI := n3_
                  clear n2_ n3_
                  refine hK.out _ _ ⟨(blk_cell HP.out.1 5).trans rfl, (blk_cell HF.out 0).trans rfl, (blk_cell HF.out 1).trans rfl⟩ (fun hHeld => ?_)
                  clear hK K
                  refine norm_ (a' := ?_) ?_ ?_
                  rotate_left
                  · show Act.put _ (some 98) _ = _
                    simp only [Act.put, List.setIfInBounds_toArray, List.set_cons_zero, List.set_cons_succ, i64_w, i32_w]
                    rfl
                  refine pure_ (i := 9) (N := (some 99)) (v := ?_) (a' := ?_) #[true, true, true, true, true, true, true, true, true, true, false, false, false] rfl rfl (any_of HT_.out (by kernel_rfl)) (fun _ _ _ h => h) (Or.inl ⟨by rfl, ?_⟩) ?_ ?_
                  rotate_left
                  · intro w'
                    go_simp
                    with_reducible rfl
                  rotate_left
                  · simp only [Act.put, List.setIfInBounds_toArray, List.set_cons_zero, List.set_cons_succ, i64_w, i32_w]
                    rfl
                  refine pure_ (i := 10) (N := (some 100)) (v := ?_) (a' := ?_) #[true, true, true, true, true, true, true, true, true, true, true, false, false] rfl rfl (any_of HT_.out (by kernel_rfl)) (fun _ _ _ h => h) (Or.inl ⟨by rfl, ?_⟩) ?_ ?_
                  rotate_left
                  · intro w'
                    go_simp
                    with_reducible rfl
                  rotate_left
                  · simp only [Act.put, List.setIfInBounds_toArray, List.set_cons_zero, List.set_cons_succ, i64_w, i32_w]
                    rfl
                  refine pure_ (i := 11) (N := (some 101)) (v := ?_) (a' := ?_) #[true, true, true, true, true, true, true, true, true, true, true, true, false] rfl rfl (any_of HT_.out (by kernel_rfl)) (fun _ _ _ h => h) (Or.inl ⟨by rfl, ?_⟩) ?_ ?_
                  rotate_left
                  · intro w'
                    go_simp
                    with_reducible rfl
                  rotate_left
                  · simp only [Act.put, List.setIfInBounds_toArray, List.set_cons_zero, List.set_cons_succ, i64_w, i32_w]
                    rfl
                  refine last_ (i := 12) (N := none) #[true, true, true, true, true, true, true, true, true, true, true, true, true] rfl rfl (one_of HT_.out (by kernel_rfl)) (by decide) (fun K hK => ?_)
                  have f0 := (blk_cell HP.out.1 5).trans rfl
                  have f1 := blk_frozen HP.out.1 5
                  refine skip_ (by rfl) rfl (w1 := w8.setCell ⟨B, 5, none⟩ vN) ?hrun ?_; (case hrun => obtain ⟨An, cn, en⟩ : ∃ An cn, vN = .slice An (rr ++ [(⟨F, xs⟩ : Rl)]).length cn := HSL.out; subst en; first | (go_simp; done) | (go_simp; rfl))
                  have HG3 := Aside0.mk HP.out.2
                  have HZ3 := Aside0.mk (blk_far (p := ⟨B, 5, none⟩) HZI.out HGRB.out vN)
                  clear f0 f1 HP HSL HZI HF
                  refine hK.out _ _ ?_
                  clear hK K
                  refine done_ (done_of HT_.out (by kernel_rfl)) ?_
                  go_wp2
                  go_roundg (u2.rs.length - (k3 + 1))
                  case measure => omega
                  case rel => exact ⟨k3 + 1, rr ++ [(⟨F, xs⟩ : Rl)], vN, by omega, Nat.le_refl _, (by first | go_num | exact congrArg (Value.int IntKind.i64) (show wrap64 ((k3 : Int) + 1) = ((k3 + 1 : Nat) : Int) from by unfold wrap64; omega)), ⟨by rw [HTK3.out, List.map_append, ← HRR.out, HXE.out, ← HFE.out]; rfl⟩, HG3, HZ3⟩
          · obtain rfl : k3 = u2.rs.length := by omega
            have HRR2 : Aside0 (rr = u2.rs.map (ruleB u2.ts u2.ns)) := ⟨by rw [HRR.out, List.take_length]⟩
            have hbB : b ≠ B := by have := READB.out.1; have := HG.out.hB; omega
            have hBb : B ≠ b := fun e => hbB e.symm
            have hgB : gr ≠ B := fun e => by
              have h1 := HZ.out
              rw [e, HG.out.blk] at h1
              injection h1 with h1
              injection h1 with _ h1
              exact absurd h1 (by decide)
            have HGB := Aside0.mk hgB
            have HRLn := Aside0.mk hrrl
            clear hrrl
            have q0 := HG.out.cells.1
            have q3 : wo.cell? ⟨B, 3, none⟩ = some (.slice A0 u2.ts.length c0) := HG.out.cells.2.1.trans (congrArg some e0)
            have q4 : wo.cell? ⟨B, 4, none⟩ = some (.slice A1 u2.ns.length c1) := HG.out.cells.2.2.1.trans (congrArg some e1)
            have q5 : wo.cell? ⟨B, 5, none⟩ = some (.slice A2 rr.length c2) := HG.out.cells.2.2.2.1.trans (congrArg some e2)
            have q6 := HG.out.cells.2.2.2.2.1
            have f6 := blk_frozen HG.out.blk 6
            have qb := READB.out.2 _ HG.out.below
            have HP6 := Aside0.mk (HG.out.putSt ((u2.ts.length : Int) + 1))
            have p0 := HP6.out.cells.1
            have p3 := HP6.out.cells.2.1.trans (congrArg some e0)
            have p4 := HP6.out.cells.2.2.1.trans (congrArg some e1)
            have p5 := HP6.out.cells.2.2.2.1.trans (congrArg some e2)
            have p6 := HP6.out.cells.2.2.2.2.1
            have pb := READB.out.2 _ HP6.out.below
            have HZ6 := Aside0.mk (blk_far (p := ⟨B, 6, none⟩) HZ.out hgB (.int .i64 ((u2.ts.length : Int) + 1)))
            have HE := Aside0.mk (⟨e0, e1, e2⟩ : vT2 = .slice A0 u2.ts.length c0 ∧ vN2 = .slice A1 u2.ns.length c1 ∧ vR = .slice A2 rr.length c2)
            clear e0 e1 e2 hgm
            by_cases hst : x.starts = []
            · have hsl : x.starts.length = 0 := by rw [hst]; rfl
              have HST := Aside0.mk hst
              rw [hsl] at qb pb
              clear hst hsl
              have z0 := (blk_cell HZ6.out 0).trans rfl
              have z1 := (blk_cell HZ6.out 1).trans rfl
              have z2 := (blk_cell HZ6.out 2).trans rfl
              have z3 := (blk_cell HZ6.out 3).trans rfl
              have y0 := blk_frozen HZ6.out 0
              have y1 := blk_frozen HZ6.out 1
              have y2 := blk_frozen HZ6.out 2
              have y3 := blk_frozen HZ6.out 3
              have HGRM : Aside0 (gramB x u2 = { terms := u2.ts, nons := u2.ns, rules := rr, start := (u2.ts.length : Int) + 1 }) := ⟨by unfold gramB; rw [HST.out, HRR2.out]; rfl⟩
              go_wp2
              have b1 := blk_set HZ6.out 0 (.slice A0 u2.ts.length c0)
              have b2 := blk_set b1 1 (.slice A1 u2.ns.length c1)
              have b3 := blk_set b2 2 (.slice A2 rr.length c2)
              have b4 := blk_set b3 3 (.int .i64 ((u2.ts.length : Int) + 1))
              have g1 := HP6.out.setG HZ6.out HGW.out HGB.out 0 (.slice A0 u2.ts.length c0)
              have g2 := g1.setG b1 HGW.out HGB.out 1 (.slice A1 u2.ns.length c1)
              have g3 := g2.setG b2 HGW.out HGB.out 2 (.slice A2 rr.length c2)
              have g4 := g3.setG b3 HGW.out HGB.out 3 (.int .i64 ((u2.ts.length : Int) + 1))
              have hga := g4.gramFar HE.out.1 HE.out.2.1 HE.out.2.2 (by omega) (by omega) (by have := HRLn.out; omega)
              refine bodyPost_ret (results_c (fn := Tryz.f30) rfl _ _ gr 25 _ (0, 0) _ rfl b4 Tryz.underlying25 rfl (by kernel_rfl)) rfl ?_
              rw [HRE.out]
              refine ⟨A0, A1, A2, c0, c1, c2, ?_, ?_, g4.below⟩
              · rw [HGRM.out]
                rfl
              · rw [HGRM.out]
                exact hga
            · obtain ⟨z, zs, hzs⟩ : ∃ z zs, x.starts = z :: zs := by
                cases h : x.starts with
                | nil => exact absurd h hst
                | cons z zs => exact ⟨z, zs, rfl⟩
              have HST := Aside0.mk hzs
              obtain ⟨ns, hns2⟩ : ∃ ns, x.starts.length = ns := ⟨_, rfl⟩
              have hnsp : (0 : Int) < (ns : Int) := by rw [← hns2, hzs]; simp
              have hnsn : 0 < ns := by omega
              rw [hns2] at qb pb
              have HNS := Aside0.mk hns2
              clear hst hzs hns2
              have HGRM : Aside0 (gramB x u2 = { terms := u2.ts, nons := u2.ns, rules := rr, start := findB u2.ts u2.ns z.s }) := ⟨by unfold gramB; rw [HST.out, HRR2.out]; rfl⟩
              obtain ⟨adt, eadt, KST⟩ : ∃ adt, A3 = some adt ∧ Aside0 (∀ w', Below W1.heap.size W1 w' → w'.cell? ⟨b, 3, none⟩ = some (.slice (some adt) ns c3) ∧ w'.cell? ⟨adt.block, adt.off + 1, none⟩ = some (.string z.s)) := by
                have hC := HC3.out
                rw [HST.out] at hC
                obtain ⟨ad, ea, _⟩ := at_tok hC 0 (by simp)
                subst ea
                obtain ⟨_, lt, _⟩ := tok_at hC
                exact ⟨ad, rfl, ⟨fun w' hw => ⟨(READB.out.2 _ hw).trans (by rw [HNS.out]), (hw.cell (World.block_lt_of_cell? _ _ lt)).trans lt⟩⟩⟩
              subst eadt
              go_wp2
              clear q0 q3 q4 q5 q6 f6 qb p0 p3 p4 p5 p6 pb
              have n1_ := Aside0.mk (HP6.out.later (below_drew (Below.refl _ _)))
              have n2_ := Aside0.mk (blk_drew HZ6.out)
              clear HP6 HZ6
              have HP6 := n1_
              have HZ6 := n2_
              clear n1_ n2_
              refine start_ (n := 20) (S := fun w' => w'.cell? ⟨B, 3, none⟩ = some (.slice A0 u2.ts.length c0) ∧ w'.cell? ⟨B, 4, none⟩ = some (.slice A1 u2.ns.length c1) ∧ w'.cell? ⟨B, 5, none⟩ = some (.slice A2 rr.length c2) ∧ w'.cell? ⟨B, 6, none⟩ = some (.int .i64 ((u2.ts.length : Int) + 1)) ∧ w'.cell? ⟨B, 0, none⟩ = some (.pointer (some ⟨b, 0, none⟩)) ∧ w'.cell? ⟨b, 3, none⟩ = some (.slice (some adt) ns c3) ∧ w'.cell? ⟨adt.block, adt.off + 1, none⟩ = some (.string z.s)) (ds := [19]) #[false, false, false, false, false, false, false, false, false, false, false, false, false, false, false, false, false, false, false, false] (by kernel_rfl) rfl rfl ⟨(HP6.out.cells.2.1).trans (congrArg some HE.out.1), (HP6.out.cells.2.2.1).trans (congrArg some HE.out.2.1), (HP6.out.cells.2.2.2.1).trans (congrArg some HE.out.2.2), HP6.out.cells.2.2.2.2.1, HP6.out.cells.1, KST.out _ HP6.out.below⟩ (fun hHeld => ?_)
              refine with_tabW bd26Tab bd26Bits (fun HT_ HW_ => ?_)
              generalize World.drew _ = w5 at HP6 HZ6 hHeld ⊢
              refine pure_ (i := 0) (N := (some 123)) (v := ?_) (a' := ?_) #[true, false, false, false, false, false, false, false, false, false, false, false, false, false, false, false, false, false, false, false] rfl rfl (any_of HT_.out (by kernel_rfl)) (fun _ _ _ h => h) (Or.inl ⟨by rfl, ?_⟩) ?_ ?_
              rotate_left
              · intro w'
                go_simp
                with_reducible rfl
              rotate_left
              · simp only [Act.put, List.setIfInBounds_toArray, List.set_cons_zero, List.set_cons_succ, i64_w, i32_w]
                rfl
              refine pure_ (i := 1) (N := (some 124)) (v := ?_) (a' := ?_) #[true, true, false, false, false, false, false, false, false, false, false, false, false, false, false, false, false, false, false, false] rfl rfl (any_of HT_.out (by kernel_rfl)) (fun _ _ _ h => h) (Or.inl ⟨by rfl, ?_⟩) ?_ ?_
              rotate_left
              · intro w'
                go_simp
                with_reducible rfl
              rotate_left
              · simp only [Act.put, List.setIfInBounds_toArray, List.set_cons_zero, List.set_cons_succ, i64_w, i32_w]
                rfl
              refine pure_ (i := 2) (N := (some 125)) (v := ?_) (a' := ?_) #[true, true, true, false, false, false, false, false, false, false, false, false, false, false, false, false, false, false, false, false] rfl rfl (any_of HT_.out (by kernel_rfl)) (fun _ _ _ h => h) (Or.inl ⟨by rfl, ?_⟩) ?_ ?_
              rotate_left
              · intro w'
                go_simp
                with_reducible rfl
              rotate_left
              · simp only [Act.put, List.setIfInBounds_toArray, List.set_cons_zero, List.set_cons_succ, i64_w, i32_w]
                rfl
              refine pure_ (i := 3) (N := (some 126)) (v := ?_) (a' := ?_) #[true, true, true, true, false, false, false, false, false, false, false, false, false, false, false, false, false, false, false, false] rfl rfl (any_of HT_.out (by kernel_rfl)) (fun _ _ _ h => h) (Or.inl ⟨by rfl, ?_⟩) ?_ ?_
              rotate_left
              · intro w'
                go_simp
                with_reducible rfl
              rotate_left
              · simp only [Act.put, List.setIfInBounds_toArray, List.set_cons_zero, List.set_cons_succ, i64_w, i32_w]
                rfl
              refine take_ (i := 4) (N := (some 127)) (v := ?_) (a' := ?_) #[true, true, true, true, true, false, false, false, false, false, false, false, false, false, false, false, false, false, false, false] rfl rfl (take_ofW HT_.out HW_.out (by kernel_rfl)) (fun _ _ _ h => h) (Or.inl ⟨by rfl, ?_⟩) hHeld ?_ ?_
              rotate_left
              · rintro w' ⟨s0, s1, s2, s3, s4, s5, s6⟩
                go_simp
                with_reducible rfl
              rotate_left
              · simp only [Act.put, List.setIfInBounds_toArray, List.set_cons_zero, List.set_cons_succ, i64_w, i32_w]
                rfl
              refine pure_ (i := 5) (N := (some 128)) (v := ?_) (a' := ?_) #[true, true, true, true, true, true, false, false, false, false, false, false, false, false, false, false, false, false, false, false] rfl rfl (any_of HT_.out (by kernel_rfl)) (fun _ _ _ h => h) (Or.inl ⟨by rfl, ?_⟩) ?_ ?_
              rotate_left
              · intro w'
                go_simp
                with_reducible rfl
              rotate_left
              · simp only [Act.put, List.setIfInBounds_toArray, List.set_cons_zero, List.set_cons_succ, i64_w, i32_w]
                rfl
              refine pure_ (i := 6) (N := (some 129)) (v := ?_) (a' := ?_) #[true, true, true, true, true, true, true, false, false, false, false, false, false, false, false, false, false, false, false, false] rfl rfl (any_of HT_.out (by kernel_rfl)) (fun _ _ _ h => h) (Or.inl ⟨by rfl, ?_⟩) ?_ ?_
              rotate_left
              · intro w'
                go_simp
                with_reducible rfl
              rotate_left
              · simp only [Act.put, List.setIfInBounds_toArray, List.set_cons_zero, List.set_cons_succ, i64_w, i32_w]
                rfl
              refine pure_ (i := 7) (N := (some 130)) (v := ?_) (a' := ?_) #[true, true, true, true, true, true, true, true, false, false, false, false, false, false, false, false, false, false, false, false] rfl rfl (any_of HT_.out (by kernel_rfl)) (fun _ _ _ h => h) (Or.inl ⟨by rfl, ?_⟩) ?_ ?_
              rotate_left
              · intro w'
                go_simp
                with_reducible rfl
              rotate_left
              · simp only [Act.put, List.setIfInBounds_toArray, List.set_cons_zero, List.set_cons_succ, i64_w, i32_w]
                rfl
              refine take_ (i := 8) (N := (some 131)) (v := ?_) (a' := ?_) #[true, true, true, true, true, true, true, true, true, false, false, false, false, false, false, false, false, false, false, false] rfl rfl (take_ofW HT_.out HW_.out (by kernel_rfl)) (fun _ _ _ h => h) (Or.inl ⟨by rfl, ?_⟩) hHeld ?_ ?_
              rotate_left
              · rintro w' ⟨s0, s1, s2, s3, s4, s5, s6⟩
                go_simp
                with_reducible rfl
              rotate_left
              · simp only [Act.put, List.setIfInBounds_toArray, List.set_cons_zero, List.set_cons_succ, i64_w, i32_w]
                rfl
              refine pure_ (i := 9) (N := (some 132)) (v := ?_) (a' := ?_) #[true, true, true, true, true, true, true, true, true, true, false, false, false, false, false, false, false, false, false, false] rfl rfl (any_of HT_.out (by kernel_rfl)) (fun _ _ _ h => h) (Or.inl ⟨by rfl, ?_⟩) ?_ ?_
              rotate_left
              · intro w'
                go_simp
                with_reducible rfl
              rotate_left
              · simp only [Act.put, List.setIfInBounds_toArray, List.set_cons_zero, List.set_cons_succ, i64_w, i32_w]
                rfl
              refine pure_ (i := 10) (N := (some 133)) (v := ?_) (a' := ?_) #[true, true, true, true, true, true, true, true, true, true, true, false, false, false, false, false, false, false, false, false] rfl rfl (any_of HT_.out (by kernel_rfl)) (fun _ _ _ h => h) (Or.inl ⟨by rfl, ?_⟩) ?_ ?_
              rotate_left
              · intro w'
                go_simp
                with_reducible rfl
              rotate_left
              · simp only [Act.put, List.setIfInBounds_toArray, List.set_cons_zero, List.set_cons_succ, i64_w, i32_w]
                rfl
              refine take_ (i := 11) (N := (some 134)) (v := ?_) (a' := ?_) #[true, true, true, true, true, true, true, true, true, true, true, true, false, false, false, false, false, false, false, false] rfl rfl (take_ofW HT_.out HW_.out (by kernel_rfl)) (fun _ _ _ h => h) (Or.inl ⟨by rfl, ?_⟩) hHeld ?_ ?_
              rotate_left
              · rintro w' ⟨s0, s1, s2, s3, s4, s5, s6⟩
                go_simp
                with_reducible rfl
              rotate_left
              · simp only [Act.put, List.setIfInBounds_toArray, List.set_cons_zero, List.set_cons_succ, i64_w, i32_w]
                rfl
              refine pure_ (i := 12) (N := (some 135)) (v := ?_) (a' := ?_) #[true, true, true, true, true, true, true, true, true, true, true, true, true, false, false, false, false, false, false, false] rfl rfl (any_of HT_.out (by kernel_rfl)) (fun _ _ _ h => h) (Or.inl ⟨by rfl, ?_⟩) ?_ ?_
              rotate_left
              · intro w'
                go_simp
                with_reducible rfl
              rotate_left
              · simp only [Act.put, List.setIfInBounds_toArray, List.set_cons_zero, List.set_cons_succ, i64_w, i32_w]
                rfl
              refine pure_ (i := 13) (N := (some 136)) (v := ?_) (a' := ?_) #[true, true, true, true, true, true, true, true, true, true, true, true, true, true, false, false, false, false, false, false] rfl rfl (any_of HT_.out (by kernel_rfl)) (fun _ _ _ h => h) (Or.inl ⟨by rfl, ?_⟩) ?_ ?_
              rotate_left
              · intro w'
                go_simp
                with_reducible rfl
              rotate_left
              · simp only [Act.put, List.setIfInBounds_toArray, List.set_cons_zero, List.set_cons_succ, i64_w, i32_w]
                rfl
              refine take_ (i := 14) (N := (some 137)) (v := ?_) (a' := ?_) #[true, true, true, true, true, true, true, true, true, true, true, true, true, true, true, false, false, false, false, false] rfl rfl (take_ofW HT_.out HW_.out (by kernel_rfl)) (fun _ _ _ h => h) (Or.inl ⟨by rfl, ?_⟩) hHeld ?_ ?_
              rotate_left
              · rintro w' ⟨s0, s1, s2, s3, s4, s5, s6⟩
                go_simp
                with_reducible rfl
              rotate_left
              · simp only [Act.put, List.setIfInBounds_toArray, List.set_cons_zero, List.set_cons_succ, i64_w, i32_w]
                rfl
              refine one_ (i := 15) (N := (some 138)) #[true, true, true, true, true, true, true, true, true, true, true, true, true, true, true, true, false, false, false, false] rfl rfl (one_of HT_.out (by kernel_rfl)) (by decide) (fun K hK => ?_)
              have HGA := Aside0.mk (HP6.out.gramAt HE.out.1 HE.out.2.1 HE.out.2.2 (by omega) (by omega) (by have := HRLn.out; omega))
              refine goes_ Tryz.func66 (by kernel_rfl) rfl #[.agg #[.slice A0 u2.ts.length c0, .slice A1 u2.ns.length c1, .slice A2 rr.length c2, .int .i64 ((u2.ts.length : Int) + 1)], .string z.s] (by rfl) rfl rfl (by first | rfl | (simp [Act.eval]; done) | (simp [Act.eval]; rfl)) ?_
              refine (gram_find (ts := u2.ts) (ns := u2.ns) z.s HGA.out.terms HGA.out.nons (by omega) (by omega)).mono ?_
              rintro e w7 ⟨rfl, e6⟩
              refine ⟨_, rfl, ?_⟩
              have h6 : Below w5.heap.size w5 w7 := e6 ▸ below_alloc (Below.refl _ _) _
              clear e6
              have n1_ := Aside0.mk (HP6.out.later h6)
              have n2_ := Aside0.mk (blk_below HZ6.out h6)
              clear HP6 HZ6 HGA h6
              have HP6 := n1_
              have HZ6 := n2_
              clear n1_ n2_
              refine hK.out _ _ ⟨(HP6.out.cells.2.1).trans (congrArg some HE.out.1), (HP6.out.cells.2.2.1).trans (congrArg some HE.out.2.1), (HP6.out.cells.2.2.2.1).trans (congrArg some HE.out.2.2), HP6.out.cells.2.2.2.2.1, HP6.out.cells.1, KST.out _ HP6.out.below⟩ (fun hHeld => ?_)
              clear hK K
              refine norm_ (a' := ?_) ?_ ?_
              rotate_left
              · show Act.put _ (some 138) _ = _
                simp only [Act.put, List.setIfInBounds_toArray, List.set_cons_zero, List.set_cons_succ, i64_w, i32_w]
                rfl
              refine pure_ (i := 16) (N := (some 139)) (v := ?_) (a' := ?_) #[true, true, true, true, true, true, true, true, true, true, true, true, true, true, true, true, true, false, false, false] rfl rfl (any_of HT_.out (by kernel_rfl)) (fun _ _ _ h => h) (Or.inl ⟨by rfl, ?_⟩) ?_ ?_
              rotate_left
              · intro w'
                go_simp
                with_reducible rfl
              rotate_left
              · simp only [Act.put, List.setIfInBounds_toArray, List.set_cons_zero, List.set_cons_succ, i64_w, i32_w]
                rfl
              refine pure_ (i := 17) (N := (some 140)) (v := ?_) (a' := ?_) #[true, true, true, true, true, true, true, true, true, true, true, true, true, true, true, true, true, true, false, false] rfl rfl (any_of HT_.out (by kernel_rfl)) (fun _ _ _ h => h) (Or.inl ⟨by rfl, ?_⟩) ?_ ?_
              rotate_left
              · intro w'
                go_simp
                with_reducible rfl
              rotate_left
              · simp only [Act.put, List.setIfInBounds_toArray, List.set_cons_zero, List.set_cons_succ, i64_w, i32_w]
                rfl
              refine pure_ (i := 18) (N := (some 141)) (v := ?_) (a' := ?_) #[true, true, true, true, true, true, true, true, true, true, true, true, true, true, true, true, true, true, true, false] rfl rfl (any_of HT_.out (by kernel_rfl)) (fun _ _ _ h => h) (Or.inl ⟨by rfl, ?_⟩) ?_ ?_
              rotate_left
              · intro w'
                go_simp
                with_reducible rfl
              rotate_left
              · simp only [Act.put, List.setIfInBounds_toArray, List.set_cons_zero, List.set_cons_succ, i64_w, i32_w]
                rfl
              refine last_ (i := 19) (N := none) #[true, true, true, true, true, true, true, true, true, true, true, true, true, true, true, true, true, true, true, true] rfl rfl (one_of HT_.out (by kernel_rfl)) (by decide) (fun K hK => ?_)
              have f0 := (blk_cell HP6.out.blk 6).trans rfl
              have f1 := blk_frozen HP6.out.blk 6
              refine skip_ (by rfl) rfl (w1 := w7.setCell ⟨B, 6, none⟩ (.int .i64 (findB u2.ts u2.ns z.s))) ?hrun ?_; (case hrun => first | (go_simp; done) | (go_simp; rfl))
              have n1_ := Aside0.mk (HP6.out.putSt (findB u2.ts u2.ns z.s))
              have n2_ := Aside0.mk (blk_far (p := ⟨B, 6, none⟩) HZ6.out HGB.out (.int .i64 (findB u2.ts u2.ns z.s)))
              clear HP6 HZ6 f0 f1
              have HP6 := n1_
              have HZ6 := n2_
              clear n1_ n2_
              refine hK.out _ _ ?_
              clear hK K
              refine done_ (done_of HT_.out (by kernel_rfl)) ?_
              generalize World.setCell w7 _ _ = w8 at HP6 HZ6 ⊢
              have p3 := HP6.out.cells.2.1.trans (congrArg some HE.out.1)
              have p4 := HP6.out.cells.2.2.1.trans (congrArg some HE.out.2.1)
              have p5 := HP6.out.cells.2.2.2.1.trans (congrArg some HE.out.2.2)
              have p6 := HP6.out.cells.2.2.2.2.1
              have z0 := (blk_cell HZ6.out 0).trans rfl
              have z1 := (blk_cell HZ6.out 1).trans rfl
              have z2 := (blk_cell HZ6.out 2).trans rfl
              have z3 := (blk_cell HZ6.out 3).trans rfl
              have y0 := blk_frozen HZ6.out 0
              have y1 := blk_frozen HZ6.out 1
              have y2 := blk_frozen HZ6.out 2
              have y3 := blk_frozen HZ6.out 3
              have p0 := HP6.out.cells.1
              go_wp2
              have b1 := blk_set HZ6.out 0 (.slice A0 u2.ts.length c0)
              have b2 := blk_set b1 1 (.slice A1 u2.ns.length c1)
              have b3 := blk_set b2 2 (.slice A2 rr.length c2)
              have b4 := blk_set b3 3 (.int .i64 (findB u2.ts u2.ns z.s))
              have g1 := HP6.out.setG HZ6.out HGW.out HGB.out 0 (.slice A0 u2.ts.length c0)
              have g2 := g1.setG b1 HGW.out HGB.out 1 (.slice A1 u2.ns.length c1)
              have g3 := g2.setG b2 HGW.out HGB.out 2 (.slice A2 rr.length c2)
              have g4 := g3.setG b3 HGW.out HGB.out 3 (.int .i64 (findB u2.ts u2.ns z.s))
              have hga := g4.gramFar HE.out.1 HE.out.2.1 HE.out.2.2 (by omega) (by omega) (by have := HRLn.out; omega)
              refine bodyPost_ret (results_c (fn := Tryz.f30) rfl _ _ gr 25 _ (0, 0) _ rfl b4 Tryz.underlying25 rfl (by kernel_rfl)) rfl ?_
              rw [HRE.out]
              refine ⟨A0, A1, A2, c0, c1, c2, ?_, ?_, g4.below⟩
              · rw [HGRM.out]
                rfl
              · rw [HGRM.out]
                exact hga
end Go.Proofs.YtliofoikejdjeaaGreat
/- gread.Parse: its deferred closure. -/
namespace Go.Proofs.YtliofoikejdjeaaGreat
open Go.RowKit Go.Proofs.YtliofoikejdjeaaGreatW.PrintWords
set_option linter.unusedVariables false
set_option linter.unusedSimpArgs false
/-- What the deferred closure leaves of a panic: the zero grammar, the error. -/
def P1End (w : World) (g0 g1 : Nat) (e p : Int) (w' : World) : Prop :=
  ∃ v', w'.heap[g0]? = some (.cells #[.slice none 0 0, .slice none 0 0, .slice none 0 0, .int .i64 0] 25 (0, 0)) ∧ w'.heap[g1]? = some (.cells #[v'] 33 (0, 0)) ∧ ErrIs w' v' e p ∧ w.heap.size ≤ w'.heap.size ∧ (∀ k, k < w.heap.size → k ≠ g0 → k ≠ g1 → w'.heap[k]? = w.heap[k]?) ∧ w'.os = w.os ∧ w'.tape = w.tape ∧ w'.output = w.output
set_option maxHeartbeats 4000000 in
set_option maxRecDepth 100000 in
theorem parse1_panic {w : World} {g0 g1 : Nat} {a0 a1 a2 a3 v : Value} (h0 : w.heap[g0]? = some (.cells #[a0, a1, a2, a3] 25 (0, 0))) (h1 : w.heap[g1]? = some (.cells #[v] 33 (0, 0))) {e p : Int} (he : e ≠ 0) (older : List PanicEntry) :
    CallsD Tryz.prog 27 #[.pointer (some ⟨g0, 0, none⟩), .pointer (some ⟨g1, 0, none⟩)] (.panicking ({ v := .iface 56 (.agg #[.int .i64 e, .int .i64 p]), recovered := false } :: older)) w fun ev u' w' =>
      ev = .returned (.tuple #[]) ∧ u' = .panicking ({ v := .iface 56 (.agg #[.int .i64 e, .int .i64 p]), recovered := true } :: older) ∧ P1End w g0 g1 e p w' := by
  have hne : g1 ≠ g0 := fun e => by
    subst e
    rw [h0] at h1
    injection h1 with h1
    injection h1 with _ h1
    exact absurd h1 (by decide)
  have hne2 : g0 ≠ g1 := Ne.symm hne
  have HNE := Aside0.mk hne
  have HA := Aside0.mk (below_alloc (Below.refl w.heap.size w) (.cells #[.int .i64 e, .int .i64 p] 56 (0, 0)))
  have HE := Aside0.mk he
  have H0 := Aside0.mk h0
  have H1 := Aside0.mk h1
  have ta := fun x W => taWr x W
  clear h0 h1 he
  refine callsD_of_wpS Tryz.func27 rfl fun c₀ cs hu => ?_
  apply wpS_seq
  apply wpS_region
  simp [wpOpsS, go_sem, recoverD, hu, Tryz.ntmps27, Exit.thenS]
  simp only [← List.toArray_replicate, List.replicate, List.setIfInBounds_toArray, List.set_cons_zero, List.set_cons_succ, List.append_toArray, List.cons_append, List.nil_append]
  refine wpS_of_wp ?_
  go_wp2_with (go_at_call 28; (with_reducible refine (fault_New _ _ _ (beq_false_of_ne HE.out)).mono ?_); rintro e2 w1 ⟨v2, rfl, hv, hb1⟩; have HV := Aside0.mk hv; have HW := Aside0.mk (HA.out.trans (hb1.mono HA.out.size)); have K0 := Aside0.mk (blk_below H0.out HW.out); have K1 := Aside0.mk (blk_below H1.out HW.out); have q0 : w1.cell? ⟨g0, 0, none⟩ = some a0 := (blk_cell K0.out 0).trans rfl; have q1 : w1.cell? ⟨g0, 1, none⟩ = some a1 := (blk_cell K0.out 1).trans rfl; have q2 : w1.cell? ⟨g0, 2, none⟩ = some a2 := (blk_cell K0.out 2).trans rfl; have q3 : w1.cell? ⟨g0, 3, none⟩ = some a3 := (blk_cell K0.out 3).trans rfl; have q4 : w1.cell? ⟨g1, 0, none⟩ = some v := (blk_cell K1.out 0).trans rfl; have f0 := blk_frozen K0.out 0; have f1 := blk_frozen K0.out 1; have f2 := blk_frozen K0.out 2; have f3 := blk_frozen K0.out 3; have f4 := blk_frozen K1.out 0; obtain ⟨b2, eb2⟩ := HV.out.some_ HE.out; subst eb2; clear hv hb1)
  have k0 := blk_set (blk_set (blk_set (blk_set K0.out 0 (.slice none 0 0)) 1 (.slice none 0 0)) 2 (.slice none 0 0)) 3 (.int .i64 0)
  have k1 := blk_far (p := ⟨g0, 3, none⟩) (blk_far (p := ⟨g0, 2, none⟩) (blk_far (p := ⟨g0, 1, none⟩) (blk_far (p := ⟨g0, 0, none⟩) K1.out HNE.out (.slice none 0 0)) HNE.out (.slice none 0 0)) HNE.out (.slice none 0 0)) HNE.out (.int .i64 0)
  refine ⟨rfl, _, rfl, _, results_none rfl _ _ _, rfl, rfl, ⟨_, blk_far (p := ⟨g1, 0, none⟩) k0 hne2 _, blk_set k1 0 _, ?_, ?_, ?_, ?_, ?_, ?_⟩⟩
  · rcases HV.out with hz | ⟨hz, b, eb, hb⟩
    · exact absurd hz.1 HE.out
    · have n0 : b ≠ g0 := fun e => by
        subst e
        have := K0.out
        rw [hb] at this
        injection this with this
        injection this with _ this
        exact absurd this (by decide)
      have n1 : b ≠ g1 := fun e => by
        subst e
        have := K1.out
        rw [hb] at this
        injection this with this
        injection this with _ this
        exact absurd this (by decide)
      exact .inr ⟨hz, b, eb, blk_far (p := ⟨g1, 0, none⟩) (blk_far (p := ⟨g0, 3, none⟩) (blk_far (p := ⟨g0, 2, none⟩) (blk_far (p := ⟨g0, 1, none⟩) (blk_far (p := ⟨g0, 0, none⟩) hb n0 _) n0 _) n0 _) n0 _) n1 _⟩
  · simpa using HW.out.size
  · intro k hk h0 h1
    exact (Below.heap_setCell _ ⟨g1, 0, none⟩ _ k h1).trans ((Below.heap_setCell _ ⟨g0, 3, none⟩ _ k h0).trans ((Below.heap_setCell _ ⟨g0, 2, none⟩ _ k h0).trans ((Below.heap_setCell _ ⟨g0, 1, none⟩ _ k h0).trans ((Below.heap_setCell _ ⟨g0, 0, none⟩ _ k h0).trans (HW.out.block k hk)))))
  · exact HW.out.os
  · exact HW.out.tape
  · exact HW.out.output
set_option maxHeartbeats 4000000 in
set_option maxRecDepth 100000 in
theorem parse1_ret {w : World} {g0 g1 : Nat} :
    CallsD Tryz.prog 27 #[.pointer (some ⟨g0, 0, none⟩), .pointer (some ⟨g1, 0, none⟩)] .returning w fun ev u' w' => ev = .returned (.tuple #[]) ∧ u' = .returning ∧ w' = w := by
  refine callsD_of_wpS Tryz.func27 rfl fun c₀ cs hu => ?_
  apply wpS_seq
  apply wpS_region
  simp [wpOpsS, go_sem, recoverD, hu, Tryz.ntmps27, Exit.thenS]
  simp only [← List.toArray_replicate, List.replicate, List.setIfInBounds_toArray, List.set_cons_zero, List.set_cons_succ, List.append_toArray, List.cons_append, List.nil_append]
  refine wpS_of_wp ?_
  go_wp2
  exact ⟨rfl, .returning, (by cases c₀; simp_all), _, results_none rfl _ _ _, rfl, rfl, rfl⟩
end Go.Proofs.YtliofoikejdjeaaGreat
/- gread.Parse. -/
namespace Go.Proofs.YtliofoikejdjeaaGreat
open Go.RowKit Go.Proofs.YtliofoikejdjeaaGreatW.PrintWords Go.Proofs.YtliofoikejdjeaaGreatW.PrintLast
set_option linter.unusedVariables false
set_option linter.unusedSimpArgs false
/-! errors have numbers -/
theorem bad_err (l : List Tk) : (badS l).1 ≠ 0 := by
  unfold badS
  split <;> simp
theorem sides_err : ∀ (f : Nat) {l : List Tk} {acc : List Sd} {e : Ft}, sidesS f l acc = .error e → e.1 ≠ 0 := by
  intro f
  induction f with
  | zero => intro l acc e h; cases h; exact bad_err _
  | succ f ih =>
    intro l acc e h
    rw [sides_cont] at h
    unfold contS at h
    split at h
    · exact ih h
    · split at h
      · cases h
      · cases h
        exact bad_err _
theorem rule_err {l : List Tk} {e : Ft} (h : ruleS l = .error e) : e.1 ≠ 0 := by
  unfold ruleS at h
  split at h
  · split at h
    · cases hr : sidesS (l.length + 1) l.tail.tail [] with
      | error e' => rw [hr] at h; cases h; exact sides_err _ hr
      | ok p => rw [hr] at h; cases h
    · cases h
      exact bad_err _
  · cases h
    exact bad_err _
theorem rules_err : ∀ (f : Nat) {l : List Tk} {acc : List Ru} {e : Ft}, rulesS f l acc = .error e → e.1 ≠ 0 := by
  intro f
  induction f with
  | zero => intro l acc e h; cases h; exact bad_err _
  | succ f ih =>
    intro l acc e h
    rw [rulesS] at h
    split at h
    · cases h
    · cases hr : ruleS l with
      | error e' => rw [hr] at h; cases h; exact rule_err hr
      | ok p => obtain ⟨l2, r⟩ := p; rw [hr] at h; exact ih h
theorem head_err {l : List Tk} {x : Hd} {e : Ft} (h : headS l x = .error e) : e.1 ≠ 0 := by
  unfold headS at h
  split at h
  · split at h
    · cases h
    · cases h; exact bad_err _
  · split at h
    · split at h
      · cases h
      · cases h; exact bad_err _
    · cases h; exact bad_err _
theorem heads_err : ∀ (f : Nat) {l : List Tk} {x : Hd} {e : Ft}, headsS f l x = .error e → e.1 ≠ 0 := by
  intro f
  induction f with
  | zero => intro l x e h; cases h; exact bad_err _
  | succ f ih =>
    intro l x e h
    rw [headsS] at h
    split at h
    · cases h
    · cases hr : headS l x with
      | error e' => rw [hr] at h; cases h; exact head_err hr
      | ok p => obtain ⟨l2, r⟩ := p; rw [hr] at h; exact ih h
theorem form_err {l : List Tk} {e : Ft} (h : formS l = .error e) : e.1 ≠ 0 := by
  unfold formS at h
  cases h1 : headsS (l.length + 1) l ⟨[], [], []⟩ with
  | error e' => rw [h1] at h; cases h; exact heads_err _ h1
  | ok p =>
    obtain ⟨l1, x1⟩ := p
    rw [h1] at h
    dsimp only at h
    cases h2 : ruleS l1 with
    | error e' => rw [h2] at h; cases h; exact rule_err h2
    | ok p =>
      obtain ⟨l2, r1⟩ := p
      rw [h2] at h
      dsimp only at h
      cases h3 : rulesS (l.length + 1) l2 [r1] with
      | error e' => rw [h3] at h; cases h; exact rules_err _ h3
      | ok rs2 => rw [h3] at h; cases h
theorem term_err {t : Tk} {ts : List ByteArray} {e : Ft} (h : termB t ts = .error e) : e.1 ≠ 0 := by
  unfold termB at h
  split at h <;> cases h
  simp
theorem start_err {rs : List Ru} {x : Hd} {e : Ft} (h : startB rs x = .error e) : e.1 ≠ 0 := by
  unfold startB at h
  split at h <;> cases h
  simp
theorem declare_errN {rs : List Ru} {x : Hd} {e : Ft} : ∀ {l : List Tk} {p : Bool} {ts : List ByteArray}, declareB rs x l p ts = .error e → e.1 ≠ 0
  | [], p, ts, h => by
    rw [declareB] at h
    split at h
    · split at h
      · cases h
      · rename_i e' h'
        cases h
        exact start_err h'
    · cases h
  | t :: l, p, ts, h => by
    rw [declareB] at h
    split at h
    · rename_i e' h'
      cases h
      split at h'
      · exact start_err h'
      · cases h'
    · split at h
      · cases h
        simp
      · split at h
        · rename_i e' h'
          cases h
          exact term_err h'
        · exact declare_errN h
theorem heads_errB {rs : List Ru} {x : Hd} {e : Ft} (h : headsB rs x = .error e) : e.1 ≠ 0 := by
  unfold headsB at h
  cases hd : declareB rs x x.declared (!x.starts.isEmpty) [] with
  | ok ts =>
    rw [hd] at h
    dsimp only at h
    split at h <;> cases h
    simp
  | error e' =>
    rw [hd] at h
    dsimp only at h
    split at h <;> cases h
    · simp
    · exact declare_errN hd
theorem symbol_err {rs : List Ru} {t : Tk} {k : Nat} {ts : List ByteArray} {e : Ft} (h : symbolB rs t k ts = .error e) : e.1 ≠ 0 := by
  unfold symbolB at h
  split at h
  · cases h; simp
  · split at h
    · cases h
    · split at h
      · exact term_err h
      · split at h <;> cases h
        simp
theorem symbols_err {rs : List Ru} {e : Ft} : ∀ {l : List Tk} {k : Nat} {ts : List ByteArray}, symbolsB rs l k ts = .error e → e.1 ≠ 0
  | [], _, _, h => by cases h
  | t :: l, k, ts, h => by
    rw [symbols_step] at h
    cases hs : symbolB rs t k ts with
    | error e' => rw [hs] at h; cases h; exact symbol_err hs
    | ok ts2 => rw [hs] at h; exact symbols_err h
theorem side_err {rs : List Ru} {left : ByteArray} {s : Sd} {u : Bu} {e : Ft} (h : sideB rs left s u = .error e) : e.1 ≠ 0 := by
  unfold sideB at h
  split at h
  · cases h; simp
  · cases hs : symbolsB rs s.l 0 u.ts with
    | error e' => rw [hs] at h; cases h; exact symbols_err hs
    | ok ts2 =>
      rw [hs] at h
      dsimp only at h
      split at h <;> cases h
      simp
theorem sides_errB {rs : List Ru} {left : ByteArray} {e : Ft} : ∀ {l : List Sd} {u : Bu}, sidesB rs left l u = .error e → e.1 ≠ 0
  | [], _, h => by cases h
  | s :: l, u, h => by
    rw [sides_step] at h
    cases hs : sideB rs left s u with
    | error e' => rw [hs] at h; cases h; exact side_err hs
    | ok u' => rw [hs] at h; exact sides_errB h
theorem left_err {t : Tk} {d : Nat} {ts ns : List ByteArray} {e : Ft} (h : leftB t d ts ns = .error e) : e.1 ≠ 0 := by
  unfold leftB at h
  split at h
  · cases h; simp
  · split at h
    · cases h
    · split at h <;> cases h
      simp
theorem rules_errB {rs : List Ru} {d : Nat} {e : Ft} : ∀ {l : List Ru} {u : Bu}, rulesB rs d l u = .error e → e.1 ≠ 0
  | [], _, h => by cases h
  | r :: l, u, h => by
    rw [rulesB_step] at h
    cases hl : leftB r.left d u.ts u.ns with
    | error e' => rw [hl] at h; cases h; exact left_err hl
    | ok ns =>
      rw [hl] at h
      dsimp only at h
      cases hs : sidesB rs r.left.s r.sides { u with ns := ns } with
      | error e' => rw [hs] at h; cases h; exact sides_errB hs
      | ok u' => rw [hs] at h; exact rules_errB h
theorem build_errB {x : Hd} {rs : List Ru} {e : Ft} (h : buildB x rs = .error e) : e.1 ≠ 0 := by
  unfold buildB at h
  cases hh : headsB rs x with
  | error e' => rw [hh] at h; cases h; exact heads_errB hh
  | ok ts =>
    rw [hh] at h
    dsimp only at h
    cases hr : rulesB rs ts.length rs ⟨ts, [], []⟩ with
    | error e' => rw [hr] at h; cases h; exact rules_errB hr
    | ok u => rw [hr] at h; cases h
theorem parse_err {s : ByteArray} {e : Ft} (h : parseS s = .error e) : e.1 ≠ 0 := by
  unfold parseS at h
  split at h
  · rename_i h1
    cases h
    exact h1
  · cases hf : formS (allS s).1 with
    | error e' => rw [hf] at h; cases h; exact form_err hf
    | ok p => obtain ⟨x, rs⟩ := p; rw [hf] at h; exact build_errB h
/-! results -/
theorem results_ci {P : Program} {fn : Func} {p q : Tmp} {ty ty' : TypeId} (h : fn.results = #[.cell p ty, .cell q ty']) (tmps : Array Value) (w : World) (g g' : Nat) (t : TypeId) (cs : Array Value) (fr : Nat × Nat) (d d' : TypeDesc) (v : Value)
    (hp : tmps.getD p undef = .pointer (some ⟨g, 0, none⟩)) (hg : w.heap[g]? = some (.cells cs t fr))
    (hu : P.underlying ty = some d) (hd : (match d with | .struct _ | .array _ _ => true | _ => false) = true) (hi : (P.info? ty).map (·.size) = some cs.size)
    (hq : tmps.getD q undef = .pointer (some ⟨g', 0, none⟩)) (hv : w.cell? ⟨g', 0, none⟩ = some v) (hu' : P.underlying ty' = some d') (hd' : (match d' with | .struct _ | .array _ _ => true | _ => false) = false) :
    (results fn tmps).run P w = .ok (.tuple #[.agg cs, v]) w := by
  have hp' : tmps[p]?.getD undef = .pointer (some ⟨g, 0, none⟩) := by simpa using hp
  have hq' : tmps[q]?.getD undef = .pointer (some ⟨g', 0, none⟩) := by simpa using hq
  have hagg : (isAgg ty').run P w = .ok false w := by
    unfold isAgg
    rw [Sem.run_bind, run_underlying hu' w]
    cases d' <;> simp_all
  have hl : (loadVar ty' ⟨g', 0, none⟩).run P w = .ok v w := by
    simp [loadVar, Sem.run_bind, hagg, hv]
  simp [results, h, hp', hq', asAddr, run_loadVar_row w g t ty cs fr d hg hu hd hi, hl]
end Go.Proofs.YtliofoikejdjeaaGreat
