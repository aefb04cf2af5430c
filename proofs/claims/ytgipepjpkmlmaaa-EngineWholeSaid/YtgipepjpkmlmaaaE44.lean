import Derived.Test.YtgipepjpkmlmaaaMB
import Derived.Test.YtgipepjpkmlmaaaE21
import Derived.Test.YtgipepjpkmlmaaaE7
import Derived.Test.YtgipepjpkmlmaaaE46
import Derived.Test.YtgipepjpkmlmaaaMC
namespace Go.Proofs.Ytgipepjpkmlmaaa.P
open Go.RowKit Go.Proofs.YtgipepjpkmlmaaaW.PrintWords Go.Proofs.YtgipepjpkmlmaaaW.PrintLast Go.Proofs.YtgipepjpkmlmaaaW.PrintMore
set_option linter.unusedVariables false
set_option linter.unusedSimpArgs false
/-- How many numbers the windows have, and how many windows the records. -/
def numN (g : S23) (rs : List S50) (l : List S46) : Int := (l.map (fun c => ((mineP g c rs).length : Int))).sum
def numS (g : S23) (rs : List S50) : Int := (rs.map (fun r => ((startsP g r.f1).length : Int))).sum
theorem numN_snoc (g : S23) (rs : List S50) (l : List S46) (c : S46) : numN g rs (l ++ [c]) = numN g rs l + (mineP g c rs).length := by simp [numN]
theorem numS_snoc (g : S23) (rs : List S50) (r : S50) : numS g (rs ++ [r]) = numS g rs + (startsP g r.f1).length := by simp [numS]
theorem mineP_len (g : S23) (c : S46) (rs : List S50) : (mineP g c rs).length ≤ rs.length := by
  unfold mineP
  rw [List.length_map]
  exact List.length_filter_le _ _
theorem mineP_mem (g : S23) (c : S46) (rs : List S50) (v : Int) (h : v ∈ mineP g c rs) : v ∈ rs.map (fun r => (valP r.f2).1) := by
  unfold mineP at h
  obtain ⟨r, hr, rfl⟩ := List.mem_map.1 h
  exact List.mem_map.2 ⟨r, (List.mem_filter.1 hr).1, rfl⟩
theorem mineL_len (g : S23) (c : S46) (rs : List S50) (vs : List Int) (k : Nat) : (mineL g c rs vs k).length ≤ k := by
  unfold mineL
  refine Nat.le_trans (List.length_filterMap_le _ _) ?_
  rw [List.length_zip, List.length_take, List.length_take]
  omega
theorem numN_range (g : S23) (rs : List S50) (hl : rs.length ≤ 1000) : ∀ (l : List S46), 0 ≤ numN g rs l ∧ numN g rs l ≤ 1000 * l.length
  | [] => by simp [numN]
  | c :: l => by
    have h := numN_range g rs hl l
    have hm := mineP_len g c rs
    have e : numN g rs (c :: l) = (mineP g c rs).length + numN g rs l := by simp [numN]
    rw [e, List.length_cons]
    omega
theorem numS_range (g : S23) (hg : chkG g = true) : ∀ (rs : List S50), 0 ≤ numS g rs ∧ numS g rs ≤ 8 * rs.length
  | [] => by simp [numS]
  | r :: rs => by
    have h := numS_range g hg rs
    have hm := startsP_length g r.f1 hg
    have e : numS g (r :: rs) = (startsP g r.f1).length + numS g rs := by simp [numS]
    rw [e, List.length_cons]
    omega
theorem take23_C {w : World} {A : Option Addr} {l : List S23} (h : k23.C w A l.length l) (n : Nat) (hn : n ≤ l.length) : k23.C w A n (l.take n) := by
  refine ⟨by rw [List.length_take]; omega, by have := h.2.1; omega, fun h0 => ?_⟩
  obtain ⟨ad, hA, hh⟩ := h.2.2 (by omega)
  refine ⟨ad, hA, fun j p hj => hh j p ?_⟩
  rw [List.getElem?_take] at hj
  split at hj
  · exact hj
  · cases hj
set_option maxHeartbeats 16000000 in
set_option maxRecDepth 100000 in
theorem engineWhole_walk (g : S23) (A : Option Addr) (c : Nat) (l : List S23) (w : World) (hr : k23.C w A l.length l) (hc : l.length ≤ c) (hv : ∀ p ∈ l, -9223372036854775808 ≤ p.f2 ∧ p.f2 ≤ 9223372036854775807) :
    Calls Try.prog 7 #[gridV g, .slice A l.length c] w fun e w' => e = .returned (.bool true) ∧ Below w.heap.size w w' := by
  obtain ⟨WB, hWB⟩ : ∃ W, W = w.alloc (.cells #[.int .i64 g.f0, .int .i64 g.f1, .int .i64 g.f2] 23) := ⟨_, rfl⟩
  have hgB : WB.heap[w.heap.size]? = some (.cells #[.int .i64 g.f0, .int .i64 g.f1, .int .i64 g.f2] 23 (0, 0)) := by rw [hWB]; exact heap_alloc_new _ _
  have hbB : Below w.heap.size w WB := by rw [hWB]; exact (Below.refl _ _).alloc (Nat.le_refl _) _
  have HWB := Lib.hid hWB
  have HGB := Lib.hid hgB
  have HBB := Lib.hid hbB
  have HCW := Lib.hid hr
  have HV := Lib.hid hv
  clear hWB hgB hbB hr hv
  cases hg : chkG g with
  | false =>
    have hno := fun w => may14_no g hg w
    clear hg
    go_enter Try.func7, Try.ntmps7
    go_wp2_with (first | (go_at_call 24; go_loud (rw [← HWB.out]; (with_reducible refine (hno _).mono ?_); rintro e w1 ⟨rfl, hb1⟩; have HB1 := Lib.hid hb1; clear hb1)) | (go_at_call 20; go_loud ((with_reducible refine (awake_calls _).mono ?_); rintro e w9 ⟨rfl, hb9⟩; have HB9 := Lib.hid (HB1.out.trans (hb9.mono HB1.out.size)); clear hb9)))
    go_ret
    exact ⟨rfl, HBB.out.trans (HB9.out.mono HBB.out.size)⟩
  | true =>
    have HGR := Lib.hid hg
    have hyes := fun w => may14_yes g hg w
    clear hg
    obtain ⟨L, hL⟩ : ∃ L, l.take 60 = L := ⟨_, rfl⟩
    have hL60 : L.length ≤ 60 := by rw [← hL, List.length_take]; omega
    have hLl : L.length ≤ l.length := by rw [← hL, List.length_take]; omega
    have hLC : k23.C w A L.length L := by
      rw [← hL]
      have h := take23_C HCW.out (min 60 l.length) (Nat.min_le_right _ _)
      rw [List.length_take]
      rwa [show l.take (min 60 l.length) = l.take 60 by rw [List.take_eq_take_iff]; omega] at h
    have hLv : ∀ p ∈ L, -9223372036854775808 ≤ p.f2 ∧ p.f2 ≤ 9223372036854775807 := fun p hp => HV.out p (by rw [← hL] at hp; exact List.mem_of_mem_take hp)
    have HLE := Lib.hid hL
    have HLC := Lib.hid hLC
    have HLV := Lib.hid hLv
    clear hL hLC hLv
    go_enter Try.func7, Try.ntmps7
    go_upto_region 3 with (first | (go_at_call 24; go_loud (rw [← HWB.out]; (with_reducible refine (hyes _).mono ?_); rintro e w1 ⟨rfl, hb1⟩; have HB1 := Lib.hid hb1; clear hb1)))
    clear hyes
    go_upto_if 26 with fail
    go_cut [1] from 27 to 28 (fun v1 wd => v1 = .slice A L.length c ∧ wd = w1)
    case first =>
      by_cases h60 : 60 < l.length
      · have d : decide ((60 : Int) < (l.length : Int)) = true := decide_eq_true (by omega)
        have d2 : ((60 : Int) < (l.length : Int)) = True := eq_true (by omega)
        have e : L.length = 60 := by rw [← HLE.out, List.length_take]; omega
        have hb : (0 : Int) ≤ 60 ∧ (60 : Int) ≤ (c : Int) := by omega
        have HE := Lib.hid e
        clear e
        go_wp2
        go_meet
        case rel => exact ⟨by rw [HE.out], rfl⟩
      · have d : decide ((60 : Int) < (l.length : Int)) = false := decide_eq_false (by omega)
        have d2 : ((60 : Int) < (l.length : Int)) = False := eq_false (by omega)
        have e : L.length = l.length := by rw [← HLE.out, List.length_take]; omega
        have HE := Lib.hid e
        clear e
        go_wp2
        go_meet
        case rel => exact ⟨by rw [HE.out], rfl⟩
    case rest =>
      obtain ⟨rfl, rfl⟩ := hcut
      obtain ⟨W2, hW2⟩ : ∃ W, W = wc := ⟨_, rfl⟩
      subst hW2
      have HLW := Lib.hid (Kd.C_below (Kd.C_below HLC.out HBB.out) HB1.out)
      have HB2 := Lib.hid (HBB.out.trans (HB1.out.mono HBB.out.size))
      have HG2 := Lib.hid (blk_below HGB.out HB1.out)
      go_upto_block 0 with fail
      go_cut [5, 6, 7, 8] from 29 to 66 (fun v5 v6 v7 v8 wd => Kd.R k50 50 wd W2.heap.size (fun _ => True) v5 (beatsL 0 L) ∧ Kd.R (Kd.int .i64) 3 wd W2.heap.size (fun _ => True) v6 (L.map (fun b => b.f2)) ∧ Below W2.heap.size W2 wd)
      case first =>
        go_wp2
        go_loopg [5, 6, 7, 8] L.length (fun kq v5 v6 v7 v8 WX => ∃ (i : Nat), v8 = .int .i64 (i : Int) ∧ i ≤ L.length ∧ L.length - i ≤ kq ∧ v7 = .int .i64 (timeB 0 (L.take i)) ∧ Kd.R k50 50 WX W2.heap.size (fun _ => True) v5 (beatsL 0 (L.take i)) ∧ Kd.R (Kd.int .i64) 3 WX W2.heap.size (fun _ => True) v6 ((L.take i).map (fun b => b.f2)) ∧ Below W2.heap.size W2 WX)
        case atStart => exact ⟨0, rfl, Nat.zero_le _, by omega, rfl, Kd.R_nil _ _ _ _ _, Kd.R_nil _ _ _ _ _, Below.refl _ _⟩
        case round =>
          obtain ⟨i, rfl, hil, hik, rfl, hRi, hRn, hbr⟩ := hrel
          by_cases hlt : i < L.length
          rotate_left
          · have d1 : decide ((i : Int) < (L.length : Int)) = false := decide_eq_false (by omega)
            rw [List.take_of_length_le (by omega)] at hRi hRn
            have HRI := Lib.hid hRi
            have HRN := Lib.hid hRn
            have HBR := Lib.hid hbr
            clear hRi hRn hbr
            go_wp2
            go_meet
            case rel => exact ⟨HRI.out, HRN.out, HBR.out⟩
          have d1 : decide ((i : Int) < (L.length : Int)) = true := decide_eq_true (by omega)
          have hbi : (0 : Int) ≤ (i : Int) ∧ (i : Int) < (L.length : Int) := by omega
          have hwi : IntKind.i64.wrap ((i : Int) + 1) = (i : Int) + 1 := by rw [IntKind.wrap_i64]; omega
          obtain ⟨ad, had, x0, x1, x2⟩ := at_T23 HLW.out (i : Int) (by omega) (by omega)
          cases had
          rw [Int.toNat_natCast] at x0 x1 x2
          have hrd : rd_T23 L (i : Int) = L[i] := by simp [rd_T23, List.getD, List.getElem?_eq_getElem hlt]
          have hmem : L[i] ∈ L := List.getElem_mem hlt
          have htk : L.take (i + 1) = L.take i ++ [rd_T23 L (i : Int)] := by rw [List.take_succ_eq_append_getElem hlt, hrd]
          rw [← hrd] at hmem
          obtain ⟨x, hx⟩ : ∃ x, rd_T23 L (i : Int) = x := ⟨_, rfl⟩
          rw [hx] at x0 x1 x2 htk hmem
          have hxv := HLV.out x hmem
          have hbs := beatsL_snoc (L.take i) 0 x
          have hts := timeB_snoc (L.take i) 0 x
          have htr := timeB_range (L.take i) 0
          have hwr := waitB_range x
          have hbl := beatsL_length (L.take i) 0
          have htl : (L.take i).length ≤ 60 := by rw [List.length_take]; omega
          rw [← htk] at hbs hts
          obtain ⟨tt, htt⟩ : ∃ q, timeB 0 (L.take i) = q := ⟨_, rfl⟩
          obtain ⟨dt, hdt⟩ : ∃ q, waitB x = q := ⟨_, rfl⟩
          obtain ⟨kx, hkx⟩ : ∃ q, keyB x = q := ⟨_, rfl⟩
          obtain ⟨sx, hsx⟩ : ∃ q, txtP x.f2 = q := ⟨_, rfl⟩
          obtain ⟨ri, hri⟩ : ∃ q, beatsL 0 (L.take i) = q := ⟨_, rfl⟩
          rw [htt, hdt, hkx, hsx, hri] at hbs
          rw [htt, hdt] at hts
          rw [htt] at htr
          rw [hdt] at hwr
          rw [hri] at hbl hRi
          rw [htt]
          obtain ⟨tx, htx⟩ : ∃ q, tt + dt = q := ⟨_, rfl⟩
          rw [htx] at hbs hts
          have hrl : ri.length ≤ 60 := by omega
          have hd : bits .and .i64 x.f1 15 = dt := hdt
          have hk : bits .and .i64 x.f0 1 = kx := hkx
          have hwt : wrap64 (tt + dt) = tx := by unfold wrap64; omega
          have hof : ∀ w, Calls Try.prog 25 #[.int .i64 kx, .int .i64 (wrap64 (tt + dt)), .int .i64 x.f2] w fun e w' => e = .returned (.agg #[.int .i64 kx, .int .i64 tx, .string sx]) ∧ Below w.heap.size w w' := fun w => by
            rw [hwt]
            exact headgatelaw16_of.calls 11 kx tx x.f2 kx tx sx w (by unfold headgatelaw16_of.f; rw [(txtP_spec x.f2 hxv.1 hxv.2).1, hsx]; rfl)
          have hml : ((L.take i).map (fun b => b.f2)).length = (L.take i).length := List.length_map _
          have hm : (L.take (i + 1)).map (fun b => b.f2) = (L.take i).map (fun b => b.f2) ++ [x.f2] := by rw [htk, List.map_append]; rfl
          obtain ⟨rn, hrn⟩ : ∃ q, (L.take i).map (fun b => b.f2) = q := ⟨_, rfl⟩
          rw [hrn] at hRn hml hm
          have hrnl : rn.length ≤ 60 := by omega
          have HM := Lib.hid hm
          clear hrn hml hm
          obtain ⟨Ai, ci, rfl, hci, _⟩ := Kd.R_reads hRi
          obtain ⟨An, cn, rfl, hcn, _⟩ := Kd.R_reads hRn
          have y1 := below_cell hbr x1
          have HX0 := Lib.hid x0
          have HX2 := Lib.hid x2
          have HOF := Lib.hid hof
          have HRI := Lib.hid hRi
          have HRN := Lib.hid hRn
          have HBR := Lib.hid hbr
          have HBS := Lib.hid hbs
          have HTS := Lib.hid hts
          have HTK := Lib.hid htk
          have HTX := Lib.hid htx
          cases gk with
          | zero => omega
          | succ gk =>
          clear x0 x1 x2 hx hrd hmem hof hRi hRn hbr hbs hts htk hxv hri htt hdt hkx hsx htr hwr htx hbl
          go_upto_region 12 with fail
          have HWT := Lib.hid hwt
          clear y1 hwt hd
          refine wp_region_held_drew (S := fun w_ => Below W2.heap.size W2 w_) (by kernel_rfl) (below_drew HBR.out) (fun hS_ => ?_)
          have hS : Below W2.heap.size W2 _ := hS_
          clear hS_
          change wpAnyH _ _ _ _ _ 17 #[false, false, false, false, false, false, false, false, false, false, false, false, false, false, false, false, false] _ _
          refine takeE 0 (some 43) #[true, false, false, false, false, false, false, false, false, false, false, false, false, false, false, false, false] hS ?_
          refine takeE 1 (some 44) #[true, true, false, false, false, false, false, false, false, false, false, false, false, false, false, false, false] hS ?_
          refine takeE 2 (some 45) #[true, true, true, false, false, false, false, false, false, false, false, false, false, false, false, false, false] hS ?_
          refine takeE 3 (some 46) #[true, true, true, true, false, false, false, false, false, false, false, false, false, false, false, false, false] hS ?_
          refine takeE 4 (some 47) #[true, true, true, true, true, false, false, false, false, false, false, false, false, false, false, false, false] hS ?_
          refine takeE 5 (some 48) #[true, true, true, true, true, true, false, false, false, false, false, false, false, false, false, false, false] hS ?_ (hy := fun w_ hS_ => by (replace hS_ : Below W2.heap.size W2 w_ := hS_); have x_ := below_cell hS_ HX0.out; go_simp <;> with_reducible rfl)
          refine takeE 6 (some 49) #[true, true, true, true, true, true, true, false, false, false, false, false, false, false, false, false, false] hS ?_
          refine takeE 7 (some 50) #[true, true, true, true, true, true, true, true, false, false, false, false, false, false, false, false, false] hS ?_
          refine takeE 8 (some 51) #[true, true, true, true, true, true, true, true, true, false, false, false, false, false, false, false, false] hS ?_
          refine takeE 9 (some 52) #[true, true, true, true, true, true, true, true, true, true, false, false, false, false, false, false, false] hS ?_
          refine takeE 10 (some 53) #[true, true, true, true, true, true, true, true, true, true, true, false, false, false, false, false, false] hS ?_
          refine takeE 11 (some 54) #[true, true, true, true, true, true, true, true, true, true, true, true, false, false, false, false, false] hS ?_
          refine takeE 12 (some 55) #[true, true, true, true, true, true, true, true, true, true, true, true, true, false, false, false, false] hS ?_ (hy := fun w_ hS_ => by (replace hS_ : Below W2.heap.size W2 w_ := hS_); have x_ := below_cell hS_ HX2.out; go_simp <;> with_reducible rfl)
          refine doD (i := 13) (ls2 := #[true, true, true, true, true, true, true, true, true, true, true, true, true, true, false, false, false]) (by kernel_rfl) rfl (by kernel_rfl) (by kernel_rfl) (fun K hK => ?_)
          go_simp
          go_wp2_with (first | (go_at_call 25; go_loud ((with_reducible refine (HOF.out _).mono ?_); rintro e w3 ⟨rfl, hb3⟩)))
          have HS3 := Lib.hid (show Below wr.heap.size wr w3 from (below_drew (Below.refl _ _)).trans hb3)
          refine hK.out _ _ ?_ (fun hS_ => ?_)
          · show Below W2.heap.size W2 _
            exact hS.trans (hb3.mono hS.size)
          clear hK K hS hb3
          have hS : Below W2.heap.size W2 _ := hS_
          clear hS_
          refine doD (i := 14) (ls2 := #[true, true, true, true, true, true, true, true, true, true, true, true, true, true, true, false, false]) (by kernel_rfl) rfl (by kernel_rfl) (by kernel_rfl) (fun K hK => ?_)
          go_simp
          refine hK.out _ _ ?_ (fun hS_ => ?_)
          · show Below W2.heap.size W2 _
            exact hS.alloc hS.size _
          clear hK K hS
          have hS : Below W2.heap.size W2 _ := hS_
          clear hS_
          have hba := (Below.refl w3.heap.size w3).alloc (Nat.le_refl _) (.cells #[.int .i64 kx, .int .i64 tx, .string sx] 50)
          have HC5 := Lib.hid (show k50.C (w3.alloc (.cells #[.int .i64 kx, .int .i64 tx, .string sx] 50)) (some ⟨w3.heap.size, 0, none⟩) 1 [(⟨kx, tx, sx⟩ : S50)] from recs_C [(⟨kx, tx, sx⟩ : S50)] (by simp) (heap_alloc_new _ _))
          have HR5 := Lib.hid (Kd.R_below (Kd.R_below HRI.out HS3.out) hba)
          have HN5 := Lib.hid (Kd.R_below (Kd.R_below HRN.out HS3.out) hba)
          have HB5 := Lib.hid hS
          clear hba
          refine doD (i := 15) (ls2 := #[true, true, true, true, true, true, true, true, true, true, true, true, true, true, true, true, false]) (by kernel_rfl) rfl (by kernel_rfl) (by kernel_rfl) (fun K hK => ?_)
          refine R_append_op k50 (w0 := W2) W2.heap.size (.tmp 43) (.tmp 57) 24 50 (.agg #[(.int .i64 0), (.int .i64 0), (.string ⟨#[]⟩)]) 32 rfl Try.underlying24 info50 rfl (by decide) (by omega) (.slice Ai ri.length ci) ri [(⟨kx, tx, sx⟩ : S50)] _ _ _ (fun _ => True) (fun _ => False) rfl rfl HR5.out HC5.out (fun _ _ h => by obtain rfl := k50_open h; exact k50_mkM _ _ _ _) (fun _ h => h.elim) (fun _ _ => trivial) HB5.out HB5.out.size (by omega) ?_
          intro v8 w8 hR8 hb8 hg8 hat8
          have HR8 := Lib.hid hR8
          have HN8 := Lib.hid (Kd.R_over' HN5.out (fun k hk => own_typed (Kd.R_own HR5.out).choose_spec k hk) (by decide) hg8)
          refine hK.out _ _ ?_ (fun hS_ => ?_)
          · show Below W2.heap.size W2 _
            exact hb8
          clear hK K hS hb8 hat8 hg8 hR8
          have hS : Below W2.heap.size W2 _ := hS_
          clear hS_
          refine takeE 16 (some 5) #[true, true, true, true, true, true, true, true, true, true, true, true, true, true, true, true, true] hS ?_
          refine wpAnyH_done (by kernel_rfl) ?_ _
          try go_simp
          have y2 := below_cell hS HX2.out
          have HS8 := Lib.hid hS
          clear hS
          go_wp2_with (first | ((with_reducible refine gate_builtin (b := .append) (xs := #[.tmp 59, .tmp 65]) rfl ?_); at_builtin; refine Kd.R_append (Kd.int .i64) (w0 := W2) W2.heap.size rfl (.tmp 59) (.tmp 65) 53 3 (.int .i64 0) 8 rfl Try.underlying53 info3 rfl (by decide) (by omega) (.slice An rn.length cn) rn x.f2 [.int .i64 x.f2] (fun _ => True) (fun _ => False) rfl rfl ?aP (fun _ hk => hk.elim) ?aF HN8.out HS8.out HS8.out.size ?aL ?_; (case aP => exact rfl); (case aF => exact (fun _ _ => trivial)); (case aL => omega); intro v9 w9 ho hb hg hat; have HN9 := Lib.hid ho; have HR9 := Lib.hid (Kd.R_over' HR8.out (fun k hk => own_typed (Kd.R_own HN8.out).choose_spec k hk) (by decide) hg); have HB9 := Lib.hid hb; clear ho hb hg hat))
          go_roundg gk
          case measure => omega
          case rel =>
            refine ⟨i + 1, by first | rfl | (congr 1), by omega, by omega, ?_, ?_, ?_, HB9.out⟩
            · rw [HWT.out, HTS.out]
            · rw [HBS.out]
              exact HR9.out
            · rw [HM.out]
              exact HN9.out
      case rest =>
        obtain ⟨hR5, hR6, hbw⟩ := hcut
        have hcl := beatsL_length L 0
        have hvl : (L.map (fun b => b.f2)).length = L.length := List.length_map _
        have hch := beats_chain L 0 (-1) HLV.out (.inr rfl) (by omega) (by omega)
        have hvs := beats_vals L 0 HLV.out
        have hbz := beats_size L 0 HLV.out
        have hvr : ∀ v ∈ L.map (fun b => b.f2), -9223372036854775808 ≤ v ∧ v ≤ 9223372036854775807 := by
          intro v hv
          obtain ⟨b, hb, rfl⟩ := List.mem_map.1 hv
          exact HLV.out b hb
        obtain ⟨rs, hrs⟩ : ∃ q, beatsL 0 L = q := ⟨_, rfl⟩
        obtain ⟨vs, hvq⟩ : ∃ q, L.map (fun b => b.f2) = q := ⟨_, rfl⟩
        rw [hrs] at hcl hch hvs hbz hR5
        rw [hvq] at hvl hvs hvr hR6
        have hrl : rs.length ≤ 60 := by omega
        have hvrl : vs.length = rs.length := by omega
        have hlaw := whole_law g rs HGR.out (by omega) hch
        obtain ⟨A5, c5, rfl, hc5, hL5⟩ := Kd.R_reads hR5
        obtain ⟨AV, cV, e6, hcV, hLV⟩ := Kd.R_reads hR6
        rw [hvrl] at e6 hcV hLV
        subst e6
        have HVRL := Lib.hid hvrl
        clear hvrl
        obtain ⟨WX, hWX⟩ : ∃ W, W = wc := ⟨_, rfl⟩
        subst hWX
        have HGX := Lib.hid (blk_below HG2.out hbw)
        have HBX := Lib.hid (HB2.out.trans (hbw.mono HB2.out.size))
        have HL1 := Lib.hid hL5
        have HV1 := Lib.hid hLV
        have HVS := Lib.hid hvs
        have HVR := Lib.hid hvr
        have h16 := fun w => engine_Zero.calls (-1) 0 0 0 [] w rfl
        have H16 := Lib.hid h16
        have hrun : ∀ (W : World) (A : Option Addr) (c : Nat), (A = none → ([] : List S46) = [] ∧ c = 0) → k50.C W A5 rs.length rs → Calls Try.prog 15 #[.agg #[.int .i64 g.f0, .int .i64 g.f1, .int .i64 g.f2], .agg #[.int .i64 (-1), .int .i64 0, .int .i64 0, .int .i64 0, .slice A 0 c], .slice A5 rs.length c5] W (FedP W (runP g awZ rs)) :=
          fun W A c hn hB => run_calls g awZ rs A A5 c c5 W (C_nil46 W A) (Nat.zero_le _) (by decide) hn hB hc5 (by omega) (fun r h => Nat.le_trans (hbz r h) (by omega))
        have hlen := run_len_p g rs awZ (by decide)
        have hcnt := fun h => @whole_count g rs (runP g awZ rs).1 (runP g awZ rs).2.1 h (by omega)
        obtain ⟨P, hP⟩ : ∃ P, runP g awZ rs = P := ⟨_, rfl⟩
        rw [hP] at hrun hlen hlaw hcnt
        obtain ⟨⟨p0, p1, p2, p3, p4⟩, po, pe⟩ := P
        simp only at hlen hlaw hcnt
        obtain ⟨hpe, hlate, hwhole⟩ := hlaw
        subst hpe
        have HRUN := Lib.hid hrun
        have HLEN := Lib.hid hlen
        have HLATE := Lib.hid hlate
        have HWHOLE := Lib.hid hwhole
        have HCNT := Lib.hid hcnt
        have HGC := Lib.hid HGR.out
        clear hR5 hR6 hbw hcl hvl hch hvs hbz hvr hrs hvq hL5 hLV h16 hrun hlen hlate hwhole hcnt hP HLV HLE HLC HLW HB2 HG2 HCW HV HWB HGB HBB HB1 HGR
        go_upto_region 14 with fail
        go_cut [9, 10, 11] from 67 to 74 (fun v5 v6 v7 wc => RunRes WX wc (⟨p0, p1, p2, p3, p4⟩, po, 0) v5 v6 v7 ∧ Below WX.heap.size WX wc)
        case first =>
          refine wp_region_held_drew (S := fun w_ => Below WX.heap.size WX w_) (by kernel_rfl) (below_drew (Below.refl _ _)) (fun hS_ => ?_)
          have hS : Below WX.heap.size WX _ := hS_
          clear hS_
          change wpAnyH _ _ _ _ _ 12 #[false, false, false, false, false, false, false, false, false, false, false, false] _ _
          refine takeE 0 (some 68) #[true, false, false, false, false, false, false, false, false, false, false, false] hS ?_ (hy := fun w_ hS_ => by (replace hS_ : Below WX.heap.size WX w_ := hS_); have q_ := blk_below HGX.out hS_; have q0_ : w_.cell? ⟨w.heap.size, 0, none⟩ = some (.int .i64 g.f0) := (blk_cell q_ 0).trans rfl; have q1_ : w_.cell? ⟨w.heap.size, 1, none⟩ = some (.int .i64 g.f1) := (blk_cell q_ 1).trans rfl; have q2_ : w_.cell? ⟨w.heap.size, 2, none⟩ = some (.int .i64 g.f2) := (blk_cell q_ 2).trans rfl; go_simp <;> with_reducible rfl)
          refine takeE 2 (some 70) #[true, false, true, false, false, false, false, false, false, false, false, false] hS ?_
          refine doD2 (i := 1) (j := 8) (l2 := #[true, true, true, false, false, false, false, false, false, false, false, false]) (l3 := #[true, false, true, false, false, false, false, false, true, false, false, false]) (by kernel_rfl) rfl rfl (by kernel_rfl) (by kernel_rfl) (by kernel_rfl) (by kernel_rfl) (fun K hK => ?_) (fun K hK => ?_)
          · go_simp
            go_wp2_with (first | (go_at_call 16; go_loud ((with_reducible refine (H16.out _).mono ?_); rintro e wq1 ⟨vz, rfl, hRz, hb1⟩; obtain ⟨Az, cz, rfl, hcz, _⟩ := Kd.R_reads hRz; have HNZ := Lib.hid (R_nil26 hRz); clear hRz hcz)))
            refine hK.out _ _ ?_ (fun hS_ => ?_)
            · show Below WX.heap.size WX _
              exact hS.trans (hb1.mono hS.size)
            clear hK K hS
            have hS : Below WX.heap.size WX _ := hS_
            clear hS_
            clear hb1
            refine doD2 (i := 3) (j := 8) (l2 := #[true, true, true, true, false, false, false, false, false, false, false, false]) (l3 := #[true, true, true, false, false, false, false, false, true, false, false, false]) (by kernel_rfl) rfl rfl (by kernel_rfl) (by kernel_rfl) (by kernel_rfl) (by kernel_rfl) (fun K hK => ?_) (fun K hK => ?_)
            · go_simp
              go_wp2_with (first | (go_at_call 15; go_loud ((with_reducible refine (HRUN.out _ _ _ HNZ.out (Kd.C_below HL1.out hS)).mono ?_); have HSS := Lib.hid hS.size; rintro e wr ⟨v6, vo, rfl, hR6, hRo, hb6⟩; obtain ⟨A6, c6, rfl, hc6, _⟩ := Kd.R_reads hR6; obtain ⟨Ao, co, rfl, hco, _⟩ := Kd.R_reads hRo; have HR4 := Lib.hid (R_base hR6 HSS.out (Nat.le_refl _)); have HR6 := Lib.hid (R_base hRo HSS.out (Nat.le_refl _)); clear hR6 hRo hc6 hco)))
              refine hK.out _ _ ?_ (fun hS_ => ?_)
              · show Below WX.heap.size WX _
                exact hS.trans (hb6.mono hS.size)
              clear hK K hS
              have hS : Below WX.heap.size WX _ := hS_
              clear hS_
              clear hb6
              refine takeE 4 (some 67) #[true, true, true, true, true, false, false, false, false, false, false, false] hS ?_
              refine takeE 5 (some 72) #[true, true, true, true, true, true, false, false, false, false, false, false] hS ?_
              refine takeE 6 (some 73) #[true, true, true, true, true, true, true, false, false, false, false, false] hS ?_
              refine takeE 7 (some 74) #[true, true, true, true, true, true, true, true, false, false, false, false] hS ?_
              have hSr := Lib.hid hS
              refine doD (i := 8) (ls2 := #[true, true, true, true, true, true, true, true, true, false, false, false]) (by kernel_rfl) rfl (by kernel_rfl) (by kernel_rfl) (fun K hK => ?_)
              go_simp
              refine hK.out _ _ ?_ (fun hS_ => ?_)
              · show Below WX.heap.size WX _
                exact hS.alloc hS.size _
              clear hK K hS
              have hS : Below WX.heap.size WX _ := hS_
              clear hS_
              refine doD (i := 9) (ls2 := #[true, true, true, true, true, true, true, true, true, true, false, false]) (by kernel_rfl) rfl (by kernel_rfl) (by kernel_rfl) (fun K hK => ?_)
              go_simp
              refine hK.out _ _ ?_ (fun hS_ => ?_)
              · show Below WX.heap.size WX _
                exact (hSr.out).alloc hSr.out.size _
              clear hK K hS
              have hS : Below WX.heap.size WX _ := hS_
              clear hS_
              refine takeE 10 (some 10) #[true, true, true, true, true, true, true, true, true, true, true, false] hS ?_
              refine takeE 11 (some 11) #[true, true, true, true, true, true, true, true, true, true, true, true] hS ?_
              refine wpAnyH_done (by kernel_rfl) ?_ _
              go_wp2
              go_meet
              case rel =>
                have h4 := R_ok (ok2 := fun _ => True) (Kd.R_below HR4.out ((Below.refl _ _).alloc (Nat.le_refl _) (.cells #[.int .i64 p0, .int .i64 p1, .int .i64 p2, .int .i64 p3, .slice A6 p4.length c6] 28))) (fun _ _ => trivial)
                have h6 := R_ok (ok2 := fun _ => True) (Kd.R_below HR6.out ((Below.refl _ _).alloc (Nat.le_refl _) (.cells #[.int .i64 p0, .int .i64 p1, .int .i64 p2, .int .i64 p3, .slice A6 p4.length c6] 28))) (fun _ _ => trivial)
                exact ⟨⟨rfl, ⟨_, A6, c6, rfl, heap_alloc_new _ _, h4⟩, ⟨_, _, rfl, h6⟩⟩, hS⟩
            · have hgbl := Lib.hid hS.size
              go_simp
              refine hK.out _ _ ?_ (fun hS_ => ?_)
              · show Below WX.heap.size WX _
                exact hS.alloc hS.size _
              clear hK K hS
              have hS : Below WX.heap.size WX _ := hS_
              clear hS_
              have HGB := hgbl
              clear hgbl
              refine doD (i := 3) (ls2 := #[true, true, true, true, false, false, false, false, true, false, false, false]) (by kernel_rfl) rfl (by kernel_rfl) (by kernel_rfl) (fun K hK => ?_)
              go_simp
              go_wp2_with (first | (go_at_call 15; go_loud ((with_reducible refine (HRUN.out _ _ _ HNZ.out (Kd.C_below HL1.out hS)).mono ?_); have hz0 := heap_alloc_new wq1 (.cells #[.int .i64 0, .int .i64 0, .int .i64 0, .int .i64 0, .slice none 0 0] 28); have HZ := Lib.hid hz0; clear hz0; have HSS := Lib.hid hS.size; rintro e wr ⟨v6, vo, rfl, hR6, hRo, hb6⟩; obtain ⟨A6, c6, rfl, hc6, _⟩ := Kd.R_reads hR6; obtain ⟨Ao, co, rfl, hco, _⟩ := Kd.R_reads hRo; have HR4 := Lib.hid (R_base hR6 HSS.out (Nat.le_refl _)); have HR6 := Lib.hid (R_base hRo HSS.out (Nat.le_refl _)); have HZL := Lib.hid (lt_of_block HZ.out); have hz6 := blk_below HZ.out hb6; have z0_ : wr.cell? ⟨_, 0, none⟩ = some (.int .i64 0) := (blk_cell hz6 0).trans rfl; have z1_ : wr.cell? ⟨_, 1, none⟩ = some (.int .i64 0) := (blk_cell hz6 1).trans rfl; have z2_ : wr.cell? ⟨_, 2, none⟩ = some (.int .i64 0) := (blk_cell hz6 2).trans rfl; have z3_ : wr.cell? ⟨_, 3, none⟩ = some (.int .i64 0) := (blk_cell hz6 3).trans rfl; have z4_ : wr.cell? ⟨_, 4, none⟩ = some (.slice none 0 0) := (blk_cell hz6 4).trans rfl; have y0_ : wr.frozen? ⟨_, 0, none⟩ = false := blk_frozen hz6 0; have y1_ : wr.frozen? ⟨_, 1, none⟩ = false := blk_frozen hz6 1; have y2_ : wr.frozen? ⟨_, 2, none⟩ = false := blk_frozen hz6 2; have y3_ : wr.frozen? ⟨_, 3, none⟩ = false := blk_frozen hz6 3; have y4_ : wr.frozen? ⟨_, 4, none⟩ = false := blk_frozen hz6 4; replace HZ := Lib.hid hz6; clear hz6; clear hR6 hRo hc6 hco)))
              refine hK.out _ _ ?_ (fun hS_ => ?_)
              · show Below WX.heap.size WX _
                exact hS.trans (hb6.mono hS.size)
              clear hK K hS
              have hS : Below WX.heap.size WX _ := hS_
              clear hS_
              clear hb6
              refine takeE 4 (some 67) #[true, true, true, true, true, false, false, false, true, false, false, false] hS ?_
              refine takeE 5 (some 72) #[true, true, true, true, true, true, false, false, true, false, false, false] hS ?_
              refine takeE 6 (some 73) #[true, true, true, true, true, true, true, false, true, false, false, false] hS ?_
              refine takeE 7 (some 74) #[true, true, true, true, true, true, true, true, true, false, false, false] hS ?_
              refine doD (i := 9) (ls2 := #[true, true, true, true, true, true, true, true, true, true, false, false]) (by kernel_rfl) rfl (by kernel_rfl) (by kernel_rfl) (fun K hK => ?_)
              go_simp
              refine hK.out _ _ ?_ (fun hS_ => ?_)
              · show Below WX.heap.size WX _
                exact put5_belowZ hS HZ.out (by have h0 := HGB.out; first | omega | (simp at h0; omega)) (.int .i64 p0) (.int .i64 p1) (.int .i64 p2) (.int .i64 p3) (.slice A6 p4.length c6)
              clear hK K hS
              have hS : Below WX.heap.size WX _ := hS_
              clear hS_
              refine takeE 10 (some 10) #[true, true, true, true, true, true, true, true, true, true, true, false] hS ?_
              refine takeE 11 (some 11) #[true, true, true, true, true, true, true, true, true, true, true, true] hS ?_
              refine wpAnyH_done (by kernel_rfl) ?_ _
              go_wp2
              go_meet
              case rel =>
                have h4 := R_ok (ok2 := fun _ => True) (R_other HR4.out (fun k hk => put5_otherZ HZ.out (by have := HZL.out; omega) (.int .i64 p0) (.int .i64 p1) (.int .i64 p2) (.int .i64 p3) (.slice A6 p4.length c6))) (fun _ _ => trivial)
                have h6 := R_ok (ok2 := fun _ => True) (R_other HR6.out (fun k hk => put5_otherZ HZ.out (by have := HZL.out; omega) (.int .i64 p0) (.int .i64 p1) (.int .i64 p2) (.int .i64 p3) (.slice A6 p4.length c6))) (fun _ _ => trivial)
                exact ⟨⟨rfl, ⟨_, A6, c6, rfl, put5_heap HZ.out (.int .i64 p0) (.int .i64 p1) (.int .i64 p2) (.int .i64 p3) (.slice A6 p4.length c6), h4⟩, ⟨_, _, rfl, h6⟩⟩, hS⟩
          · have hgbl := Lib.hid hS.size
            go_simp
            refine hK.out _ _ ?_ (fun hS_ => ?_)
            · show Below WX.heap.size WX _
              exact hS.alloc hS.size _
            clear hK K hS
            have hS : Below WX.heap.size WX _ := hS_
            clear hS_
            have HGB := hgbl
            clear hgbl
            refine doD (i := 1) (ls2 := #[true, true, true, false, false, false, false, false, true, false, false, false]) (by kernel_rfl) rfl (by kernel_rfl) (by kernel_rfl) (fun K hK => ?_)
            go_simp
            go_wp2_with (first | (go_at_call 16; go_loud ((with_reducible refine (H16.out _).mono ?_); rintro e wq1 ⟨vz, rfl, hRz, hb1⟩; obtain ⟨Az, cz, rfl, hcz, _⟩ := Kd.R_reads hRz; have HNZ := Lib.hid (R_nil26 hRz); have hz1 := blk_below (blk_drew (heap_alloc_new _ _)) hb1; have HZ := Lib.hid hz1; clear hz1; clear hRz hcz)))
            refine hK.out _ _ ?_ (fun hS_ => ?_)
            · show Below WX.heap.size WX _
              exact hS.trans (hb1.mono hS.size)
            clear hK K hS
            have hS : Below WX.heap.size WX _ := hS_
            clear hS_
            clear hb1
            refine doD (i := 3) (ls2 := #[true, true, true, true, false, false, false, false, true, false, false, false]) (by kernel_rfl) rfl (by kernel_rfl) (by kernel_rfl) (fun K hK => ?_)
            go_simp
            go_wp2_with (first | (go_at_call 15; go_loud ((with_reducible refine (HRUN.out _ _ _ HNZ.out (Kd.C_below HL1.out hS)).mono ?_); have HSS := Lib.hid hS.size; rintro e wr ⟨v6, vo, rfl, hR6, hRo, hb6⟩; obtain ⟨A6, c6, rfl, hc6, _⟩ := Kd.R_reads hR6; obtain ⟨Ao, co, rfl, hco, _⟩ := Kd.R_reads hRo; have HR4 := Lib.hid (R_base hR6 HSS.out (Nat.le_refl _)); have HR6 := Lib.hid (R_base hRo HSS.out (Nat.le_refl _)); have HZL := Lib.hid (lt_of_block HZ.out); have hz6 := blk_below HZ.out hb6; have z0_ : wr.cell? ⟨_, 0, none⟩ = some (.int .i64 0) := (blk_cell hz6 0).trans rfl; have z1_ : wr.cell? ⟨_, 1, none⟩ = some (.int .i64 0) := (blk_cell hz6 1).trans rfl; have z2_ : wr.cell? ⟨_, 2, none⟩ = some (.int .i64 0) := (blk_cell hz6 2).trans rfl; have z3_ : wr.cell? ⟨_, 3, none⟩ = some (.int .i64 0) := (blk_cell hz6 3).trans rfl; have z4_ : wr.cell? ⟨_, 4, none⟩ = some (.slice none 0 0) := (blk_cell hz6 4).trans rfl; have y0_ : wr.frozen? ⟨_, 0, none⟩ = false := blk_frozen hz6 0; have y1_ : wr.frozen? ⟨_, 1, none⟩ = false := blk_frozen hz6 1; have y2_ : wr.frozen? ⟨_, 2, none⟩ = false := blk_frozen hz6 2; have y3_ : wr.frozen? ⟨_, 3, none⟩ = false := blk_frozen hz6 3; have y4_ : wr.frozen? ⟨_, 4, none⟩ = false := blk_frozen hz6 4; replace HZ := Lib.hid hz6; clear hz6; clear hR6 hRo hc6 hco)))
            refine hK.out _ _ ?_ (fun hS_ => ?_)
            · show Below WX.heap.size WX _
              exact hS.trans (hb6.mono hS.size)
            clear hK K hS
            have hS : Below WX.heap.size WX _ := hS_
            clear hS_
            clear hb6
            refine takeE 4 (some 67) #[true, true, true, true, true, false, false, false, true, false, false, false] hS ?_
            refine takeE 5 (some 72) #[true, true, true, true, true, true, false, false, true, false, false, false] hS ?_
            refine takeE 6 (some 73) #[true, true, true, true, true, true, true, false, true, false, false, false] hS ?_
            refine takeE 7 (some 74) #[true, true, true, true, true, true, true, true, true, false, false, false] hS ?_
            refine doD (i := 9) (ls2 := #[true, true, true, true, true, true, true, true, true, true, false, false]) (by kernel_rfl) rfl (by kernel_rfl) (by kernel_rfl) (fun K hK => ?_)
            go_simp
            refine hK.out _ _ ?_ (fun hS_ => ?_)
            · show Below WX.heap.size WX _
              exact put5_belowZ hS HZ.out (by have h0 := HGB.out; first | omega | (simp at h0; omega)) (.int .i64 p0) (.int .i64 p1) (.int .i64 p2) (.int .i64 p3) (.slice A6 p4.length c6)
            clear hK K hS
            have hS : Below WX.heap.size WX _ := hS_
            clear hS_
            refine takeE 10 (some 10) #[true, true, true, true, true, true, true, true, true, true, true, false] hS ?_
            refine takeE 11 (some 11) #[true, true, true, true, true, true, true, true, true, true, true, true] hS ?_
            refine wpAnyH_done (by kernel_rfl) ?_ _
            go_wp2
            go_meet
            case rel =>
              have h4 := R_ok (ok2 := fun _ => True) (R_other HR4.out (fun k hk => put5_otherZ HZ.out (by have := HZL.out; omega) (.int .i64 p0) (.int .i64 p1) (.int .i64 p2) (.int .i64 p3) (.slice A6 p4.length c6))) (fun _ _ => trivial)
              have h6 := R_ok (ok2 := fun _ => True) (R_other HR6.out (fun k hk => put5_otherZ HZ.out (by have := HZL.out; omega) (.int .i64 p0) (.int .i64 p1) (.int .i64 p2) (.int .i64 p3) (.slice A6 p4.length c6))) (fun _ _ => trivial)
              exact ⟨⟨rfl, ⟨_, A6, c6, rfl, put5_heap HZ.out (.int .i64 p0) (.int .i64 p1) (.int .i64 p2) (.int .i64 p3) (.slice A6 p4.length c6), h4⟩, ⟨_, _, rfl, h6⟩⟩, hS⟩
        case rest =>
          obtain ⟨⟨e0, ⟨gb, A7, c7, rfl, hbox, hR4⟩, ⟨Ao, co, rfl, hRo⟩⟩, hbw⟩ := hcut
          subst e0
          simp only at hbox hR4 hRo
          have hbl := HBX.out.trans (hbw.mono HBX.out.size)
          have g8 := blk_below HGX.out hbw
          have b1 : wc.cell? ⟨gb, 1, none⟩ = some (.int .i64 p1) := (blk_cell hbox 1).trans rfl
          have b4 : wc.cell? ⟨gb, 4, none⟩ = some (.slice A7 p4.length c7) := (blk_cell hbox 4).trans rfl
          have q0 : wc.cell? ⟨w.heap.size, 0, none⟩ = some (.int .i64 g.f0) := (blk_cell g8 0).trans rfl
          have q1 : wc.cell? ⟨w.heap.size, 1, none⟩ = some (.int .i64 g.f1) := (blk_cell g8 1).trans rfl
          have q2 : wc.cell? ⟨w.heap.size, 2, none⟩ = some (.int .i64 g.f2) := (blk_cell g8 2).trans rfl
          have HPO := Lib.hid (Kd.R_reads' hRo).2.2
          have HP4 := Lib.hid (Kd.R_reads' hR4).2.2
          have HBL := Lib.hid hbl
          have HRC := Lib.hid (Kd.C_below HL1.out hbw)
          have HVC := Lib.hid (Kd.C_below HV1.out hbw)
          have hlen := HLEN.out
          clear hbox hbl hbw HRUN HGX HL1 HV1 HBX H16 g8 hR4 hRo HLEN
          by_cases hp1 : 0 < p1
          · have d1 : decide (0 < p1) = true := decide_eq_true hp1
            have hne := HLATE.out hp1
            have hp4 : 0 < p4.length := List.length_pos_iff.2 hne
            have d2 : decide ((0 : Int) < (p4.length : Int)) = true := decide_eq_true (by omega)
            have d3 : ((0 : Int) < (p4.length : Int)) = True := eq_true (by omega)
            have d4 : (0 < p4.length) = True := eq_true hp4
            have d5 : (0 < p1) = True := eq_true hp1
            clear hne HWHOLE HCNT HLATE
            go_wp2_with (first | (go_at_call 20; go_loud ((with_reducible refine (awake_calls _).mono ?_); rintro e w9 ⟨rfl, hb9⟩)))
            go_ret
            exact ⟨rfl, HBL.out.trans (hb9.mono HBL.out.size)⟩
          have d1 : decide (0 < p1) = false := decide_eq_false hp1
          have d5 : (0 < p1) = False := eq_false hp1
          have hw := HWHOLE.out (by omega)
          have hcn := HCNT.out hw
          have hp64 : p4.length ≤ 64 := hw.once.inv.len
          have hmk := hw.once.inv.mark
          try simp only at hmk
          obtain ⟨gs0, gs1, gs2, gs3, gs4, gs5, gs6, gs7⟩ := chkG_spec HGC.out
          obtain ⟨LA, hLA⟩ : ∃ LA, po ++ p4 = LA := ⟨_, rfl⟩
          have hLAl : LA.length ≤ 200000 := by rw [← hLA, List.length_append]; omega
          have hagg : ∀ c ∈ LA, c.f2 = allA (mineP g c rs) := by rw [← hLA]; exact hw.agg
          have hst : ∀ c ∈ LA, 0 ≤ c.f1 ∧ c.f1 ≤ 1099511627776 := by
            intro c hc
            rw [← hLA] at hc
            refine ⟨(hw.hop c hc).1, ?_⟩
            rcases List.mem_append.1 hc with h | h
            · have := (closed_iff HGC.out c.f1 p0 (by omega) (by omega)).1 (hw.once.cl c h)
              omega
            · exact (hw.once.inv.each c h).s1
          have htm := hw.tim
          try simp only at hcn
          rw [hLA] at hcn
          have HAGG := Lib.hid hagg
          have HST := Lib.hid hst
          have HTM := Lib.hid htm
          have HCN := Lib.hid hcn
          have HLA := Lib.hid hLA
          have HGS := Lib.hid (show 1 ≤ g.f0 ∧ g.f0 ≤ 4611686018427387904 by omega)
          clear hw hcn hmk hLA hagg hst htm HWHOLE HCNT HLATE gs0 gs1 gs2 gs3 gs4 gs5 gs6 gs7
          go_upto_region 22 with (first | ((with_reducible refine gate_builtin (b := .append) (xs := #[.tmp 87, .tmp 88]) rfl ?_); (try (refine gate_guard (by rfl) ?_; dsimp only)); at_builtin; refine Kd.R_append_rows k46 (w0 := wc) wc.heap.size rfl (.tmp 87) (.tmp 88) 26 46 (.agg #[(.int .i64 0), (.int .i64 0), (.int .i64 0), (.int .i64 0), (.int .i64 0), (.int .i64 0), (.int .i64 0), (.int .i64 0), (.int .i64 0), (.int .i64 0), (.int .i64 0), (.int .i64 0)]) 96 rfl Try.underlying26 info46 rfl (by decide) (by omega) (.slice none 0 0) [] po _ _ _ (fun _ => True) (fun _ => False) rfl rfl (Kd.R_nil _ _ _ _ _) HPO.out (fun _ _ h => by obtain rfl := k46_open h; exact k46_mkM _ _ _ _) (fun _ h => h.elim) (fun _ _ => trivial) (Below.refl _ _) (Nat.le_refl _) ?aL ?_; (case aL => first | omega | (simp; omega)); intro va wa hRa hba hga hata; rw [List.nil_append] at hRa; obtain ⟨Aa, ca, rfl, hca, _⟩ := Kd.R_reads hRa; have b4a := below_cell hba b4; have HRA := Lib.hid hRa; have HBA := Lib.hid hba; clear hRa hba hga hata) | ((with_reducible refine gate_builtin (b := .append) (xs := #[.tmp 90, .tmp 92]) rfl ?_); (try (refine gate_guard (by rfl) ?_; dsimp only)); at_builtin; refine Kd.R_append_rows k46 (w0 := wc) wc.heap.size rfl (.tmp 90) (.tmp 92) 26 46 (.agg #[(.int .i64 0), (.int .i64 0), (.int .i64 0), (.int .i64 0), (.int .i64 0), (.int .i64 0), (.int .i64 0), (.int .i64 0), (.int .i64 0), (.int .i64 0), (.int .i64 0), (.int .i64 0)]) 96 rfl Try.underlying26 info46 rfl (by decide) (by omega) (.slice Aa po.length ca) po p4 _ _ _ (fun _ => True) (fun _ => False) rfl rfl HRA.out (Kd.C_below HP4.out HBA.out) (fun _ _ h => by obtain rfl := k46_open h; exact k46_mkM _ _ _ _) (fun _ h => h.elim) (fun _ _ => trivial) HBA.out HBA.out.size ?aL ?_; (case aL => first | omega | (simp; omega)); intro vb wb hRb hbb hgb hatb; rw [HLA.out] at hRb; obtain ⟨Ab, cb, rfl, hcb, hCb⟩ := Kd.R_reads hRb; have HCB := Lib.hid hCb; have HBB2 := Lib.hid hbb; clear hRb hbb hgb hatb hCb))
          have k0 := below_cell HBB2.out q0
          have k1 := below_cell HBB2.out q1
          have k2 := below_cell HBB2.out q2
          have HBW := Lib.hid (HBL.out.trans (HBB2.out.mono HBL.out.size))
          have HK0 := Lib.hid k0
          have HK1 := Lib.hid k1
          have HK2 := Lib.hid k2
          have HRB := Lib.hid (Kd.C_below HRC.out HBB2.out)
          have hvb := Kd.C_below HVC.out HBB2.out
          have HVB := Lib.hid hvb
          clear hvb
          clear b1 b4 q0 q1 q2 k0 k1 k2 HBL HBB2 HPO HP4 HRA HBA b4a HRC HVC HLA d1 d5 hp1 hlen
          go_upto_block 2 with fail
          go_cut [13, 14, 15, 16] from 94 to 164 (fun v13 v14 v15 v16 wd => v13 = .int .i64 (numN g rs LA) ∧ Below wb.heap.size wb wd)
          case first =>
            go_wp2
            go_loopg [13, 14] LA.length (fun kq v13 v14 WX => ∃ (i : Nat), v14 = .int .i64 (i : Int) ∧ i ≤ LA.length ∧ LA.length - i ≤ kq ∧ v13 = .int .i64 (numN g rs (LA.take i)) ∧ Below wb.heap.size wb WX)
            case atStart => exact ⟨0, rfl, Nat.zero_le _, by omega, rfl, Below.refl _ _⟩
            case round =>
              obtain ⟨i, rfl, hil, hik, rfl, hbr⟩ := hrel
              by_cases hlt : i < LA.length
              rotate_left
              · have d1 : decide ((i : Int) < (LA.length : Int)) = false := decide_eq_false (by omega)
                rw [List.take_of_length_le (show LA.length ≤ i by omega)]
                have HBR := Lib.hid hbr
                clear hbr
                go_wp2
                go_meet
                case rel => exact ⟨rfl, HBR.out⟩
              have d1 : decide ((i : Int) < (LA.length : Int)) = true := decide_eq_true (by omega)
              have hbi : (0 : Int) ≤ (i : Int) ∧ (i : Int) < (LA.length : Int) := by omega
              have hwi : IntKind.i64.wrap ((i : Int) + 1) = (i : Int) + 1 := by rw [IntKind.wrap_i64]; omega
              obtain ⟨ad, had, x0, x1, x2, x3, x4, x5, x6, x7, x8, x9, x10, x11⟩ := at_T46 (Kd.C_below HCB.out hbr) (i : Int) (by omega) (by omega)
              cases had
              rw [Int.toNat_natCast] at x0 x1 x2 x3 x4 x5 x6 x7 x8 x9 x10 x11
              have hmem : rd_T46 LA (i : Int) ∈ LA := by rw [rd_get LA i hlt]; exact List.getElem_mem hlt
              have htk : LA.take (i + 1) = LA.take i ++ [rd_T46 LA (i : Int)] := by rw [List.take_succ_eq_append_getElem hlt, rd_get LA i hlt]
              obtain ⟨x, hx⟩ : ∃ x, rd_T46 LA (i : Int) = x := ⟨_, rfl⟩
              rw [hx] at x0 x1 x2 x3 x4 x5 x6 x7 x8 x9 x10 x11 hmem htk
              have hxa := HAGG.out x hmem
              have hxs := HST.out x hmem
              have hns := numN_snoc g rs (LA.take i) x
              rw [← htk] at hns
              have hnr := numN_range g rs (by omega) (LA.take i)
              have htl : (LA.take i).length ≤ 200000 := by rw [List.length_take]; omega
              obtain ⟨nn, hnn⟩ : ∃ q, numN g rs (LA.take i) = q := ⟨_, rfl⟩
              rw [hnn] at hns hnr
              rw [hnn]
              have hml := mineP_len g x rs
              have hmr : ∀ v ∈ mineP g x rs, -9223372036854775808 ≤ v ∧ v ≤ 9223372036854775807 := fun v hv => HVR.out v (by rw [← HVS.out]; exact mineP_mem g x rs v hv)
              have HX0 := Lib.hid x0
              have HX1 := Lib.hid x1
              have HX2 := Lib.hid x2
              have HX3 := Lib.hid x3
              have HX4 := Lib.hid x4
              have HX5 := Lib.hid x5
              have HX6 := Lib.hid x6
              have HX7 := Lib.hid x7
              have HX8 := Lib.hid x8
              have HX9 := Lib.hid x9
              have HX10 := Lib.hid x10
              have HX11 := Lib.hid x11
              have HXA := Lib.hid hxa
              have HXS := Lib.hid hxs
              have HNS := Lib.hid hns
              have HMR := Lib.hid hmr
              have HBR := Lib.hid hbr
              have HG0 := Lib.hid (below_cell hbr HK0.out)
              have HRI := Lib.hid (Kd.C_below HRB.out hbr)
              have HVI := Lib.hid (Kd.C_below HVB.out hbr)
              cases gk with
              | zero => omega
              | succ og =>
              obtain ⟨WI, hWI⟩ : ∃ W, W = wr := ⟨_, rfl⟩
              subst hWI
              clear x0 x1 x2 x3 x4 x5 x6 x7 x8 x9 x10 x11 hmem htk hx hxa hxs hns hmr hbr hnn
              go_upto_block 4 with fail
              go_cut [15, 16] from 100 to 152 (fun v15 v16 wd => Kd.R (Kd.int .i64) 3 wd WI.heap.size (fun _ => True) v15 (mineP g x rs) ∧ Below WI.heap.size WI wd)
              case first =>
                go_wp2
                go_loopg [15, 16] rs.length (fun kq v15 v16 WX => ∃ (k : Nat), v16 = .int .i64 (k : Int) ∧ k ≤ rs.length ∧ rs.length - k ≤ kq ∧ Kd.R (Kd.int .i64) 3 WX WI.heap.size (fun _ => True) v15 (mineL g x rs vs k) ∧ Below WI.heap.size WI WX)
                case atStart => exact ⟨0, rfl, Nat.zero_le _, by omega, Kd.R_nil _ _ _ _ _, Below.refl _ _⟩
                case round =>
                  obtain ⟨k, rfl, hkl, hkk, hRm, hbq⟩ := hrel
                  by_cases hlk : k < rs.length
                  rotate_left
                  · have d3 : decide ((k : Int) < (rs.length : Int)) = false := decide_eq_false (by omega)
                    rw [mineL_end g x rs vs HVS.out k (by omega)] at hRm
                    have HRM := Lib.hid hRm
                    have HBQ := Lib.hid hbq
                    clear hRm hbq
                    go_wp2
                    go_meet
                    case rel => exact ⟨HRM.out, HBQ.out⟩
                  have d3 : decide ((k : Int) < (rs.length : Int)) = true := decide_eq_true (by omega)
                  have hbk : (0 : Int) ≤ (k : Int) ∧ (k : Int) < (rs.length : Int) := by omega
                  have hwk : IntKind.i64.wrap ((k : Int) + 1) = (k : Int) + 1 := by rw [IntKind.wrap_i64]; omega
                  obtain ⟨ar, har, y0, y1, _⟩ := at_T50 (Kd.C_below HRI.out hbq) (k : Int) (by omega) (by omega)
                  cases har
                  obtain ⟨av, hav, z0⟩ := Kd.at_int (Kd.C_below HVI.out hbq) (k : Int) (by omega) (by omega)
                  cases hav
                  rw [Int.toNat_natCast] at y0 y1 z0
                  have hvrl := HVRL.out
                  have hstep := mineL_step g x rs vs k hlk (by omega)
                  have hy : rd_T50 rs (k : Int) = rs[k] := by simp [rd_T50, List.getD, List.getElem?_eq_getElem hlk]
                  have hz : rd vs (k : Int) = vs[k] := rdI vs k (by omega)
                  have htm := HTM.out _ (List.getElem_mem hlk)
                  rw [← hy] at hstep htm
                  rw [← hz] at hstep
                  obtain ⟨y, hyy⟩ : ∃ y, rd_T50 rs (k : Int) = y := ⟨_, rfl⟩
                  obtain ⟨z, hzz⟩ : ∃ z, rd vs (k : Int) = z := ⟨_, rfl⟩
                  rw [hyy] at y0 y1 hstep htm
                  rw [hzz] at z0 hstep
                  clear hyy hzz hy hz hvrl
                  have hmm := mineL_len g x rs vs k
                  obtain ⟨ml, hml2⟩ : ∃ q, mineL g x rs vs k = q := ⟨_, rfl⟩
                  rw [hml2] at hmm hstep hRm
                  obtain ⟨Am, cm, rfl, hcm, _⟩ := Kd.R_reads hRm
                  have hgs := HGS.out
                  have hxs := HXS.out
                  obtain ⟨xe, hxe⟩ : ∃ q, x.f1 + g.f0 = q := ⟨_, rfl⟩
                  have hwx : IntKind.i64.wrap (x.f1 + g.f0) = xe := by rw [IntKind.wrap_i64]; omega
                  have hwx2 : wrap64 (x.f1 + g.f0) = xe := by unfold wrap64; omega
                  obtain ⟨bk, dk⟩ : ∃ b, (y.f0 == x.f0) = b := ⟨_, rfl⟩
                  obtain ⟨bg, dg⟩ : ∃ b, decide (x.f1 ≤ y.f1) = b := ⟨_, rfl⟩
                  obtain ⟨bl, dl⟩ : ∃ b, decide (y.f1 < xe) = b := ⟨_, rfl⟩
                  have hin : inW g x y = (bk && (bg && bl)) := by unfold inW; rw [dk, hxe, dl, ← dg]
                  rw [hin] at hstep
                  have HY0 := Lib.hid y0
                  have HY1 := Lib.hid y1
                  have HZ0 := Lib.hid z0
                  have HST2 := Lib.hid hstep
                  have HRM := Lib.hid hRm
                  have HBQ := Lib.hid hbq
                  cases gk with
                  | zero => omega
                  | succ gk =>
                  obtain ⟨WX, hWX⟩ : ∃ W, W = wr := ⟨_, rfl⟩
                  subst hWX
                  clear y0 y1 z0 hstep hRm hbq hin hxe hgs hxs htm hml2
                  cases bk with
                  | false =>
                    go_upto_region 30 with fail
                    refine wp_region_held_drew (S := fun w_ => Below WX.heap.size WX w_) (by kernel_rfl) (below_drew (Below.refl _ _)) (fun hS_ => ?_)
                    have hS : Below WX.heap.size WX _ := hS_
                    clear hS_
                    change wpAnyH _ _ _ _ _ 40 #[false, false, false, false, false, false, false, false, false, false, false, false, false, false, false, false, false, false, false, false, false, false, false, false, false, false, false, false, false, false, false, false, false, false, false, false, false, false, false, false] _ _
                    refine takeE 0 (some 106) #[true, false, false, false, false, false, false, false, false, false, false, false, false, false, false, false, false, false, false, false, false, false, false, false, false, false, false, false, false, false, false, false, false, false, false, false, false, false, false, false] hS ?_
                    refine takeE 1 (some 107) #[true, true, false, false, false, false, false, false, false, false, false, false, false, false, false, false, false, false, false, false, false, false, false, false, false, false, false, false, false, false, false, false, false, false, false, false, false, false, false, false] hS ?_
                    refine takeE 2 (some 108) #[true, true, true, false, false, false, false, false, false, false, false, false, false, false, false, false, false, false, false, false, false, false, false, false, false, false, false, false, false, false, false, false, false, false, false, false, false, false, false, false] hS ?_
                    refine takeE 3 (some 109) #[true, true, true, true, false, false, false, false, false, false, false, false, false, false, false, false, false, false, false, false, false, false, false, false, false, false, false, false, false, false, false, false, false, false, false, false, false, false, false, false] hS ?_
                    refine takeE 4 (some 110) #[true, true, true, true, true, false, false, false, false, false, false, false, false, false, false, false, false, false, false, false, false, false, false, false, false, false, false, false, false, false, false, false, false, false, false, false, false, false, false, false] hS ?_ (hy := fun w_ hS_ => by (replace hS_ : Below WX.heap.size WX w_ := hS_); have a0_ := below_cell hS_ (HY0.out); go_simp <;> with_reducible rfl)
                    refine takeE 5 (some 111) #[true, true, true, true, true, true, false, false, false, false, false, false, false, false, false, false, false, false, false, false, false, false, false, false, false, false, false, false, false, false, false, false, false, false, false, false, false, false, false, false] hS ?_
                    refine takeE 6 (some 112) #[true, true, true, true, true, true, true, false, false, false, false, false, false, false, false, false, false, false, false, false, false, false, false, false, false, false, false, false, false, false, false, false, false, false, false, false, false, false, false, false] hS ?_
                    refine takeE 7 (some 113) #[true, true, true, true, true, true, true, true, false, false, false, false, false, false, false, false, false, false, false, false, false, false, false, false, false, false, false, false, false, false, false, false, false, false, false, false, false, false, false, false] hS ?_
                    refine takeE 8 (some 114) #[true, true, true, true, true, true, true, true, true, false, false, false, false, false, false, false, false, false, false, false, false, false, false, false, false, false, false, false, false, false, false, false, false, false, false, false, false, false, false, false] hS ?_
                    refine takeE 9 (some 115) #[true, true, true, true, true, true, true, true, true, true, false, false, false, false, false, false, false, false, false, false, false, false, false, false, false, false, false, false, false, false, false, false, false, false, false, false, false, false, false, false] hS ?_ (hy := fun w_ hS_ => by (replace hS_ : Below WX.heap.size WX w_ := hS_); have a0_ := below_cell hS_ (below_cell HBQ.out HX0.out); go_simp <;> with_reducible rfl)
                    refine takeE 10 (some 116) #[true, true, true, true, true, true, true, true, true, true, true, false, false, false, false, false, false, false, false, false, false, false, false, false, false, false, false, false, false, false, false, false, false, false, false, false, false, false, false, false] hS ?_
                    refine takeE 11 (some 117) #[true, true, true, true, true, true, true, true, true, true, true, true, false, false, false, false, false, false, false, false, false, false, false, false, false, false, false, false, false, false, false, false, false, false, false, false, false, false, false, false] hS ?_
                    refine offE 12 (some 118) #[true, true, true, true, true, true, true, true, true, true, true, true, true, false, false, false, false, false, false, false, false, false, false, false, false, false, false, false, false, false, false, false, false, false, false, false, false, false, false, false] hS ?_
                    refine offE 13 (some 119) #[true, true, true, true, true, true, true, true, true, true, true, true, true, true, false, false, false, false, false, false, false, false, false, false, false, false, false, false, false, false, false, false, false, false, false, false, false, false, false, false] hS ?_
                    refine offE 14 (some 120) #[true, true, true, true, true, true, true, true, true, true, true, true, true, true, true, false, false, false, false, false, false, false, false, false, false, false, false, false, false, false, false, false, false, false, false, false, false, false, false, false] hS ?_
                    refine offE 15 (some 121) #[true, true, true, true, true, true, true, true, true, true, true, true, true, true, true, true, false, false, false, false, false, false, false, false, false, false, false, false, false, false, false, false, false, false, false, false, false, false, false, false] hS ?_
                    refine offE 16 (some 122) #[true, true, true, true, true, true, true, true, true, true, true, true, true, true, true, true, true, false, false, false, false, false, false, false, false, false, false, false, false, false, false, false, false, false, false, false, false, false, false, false] hS ?_
                    refine offE 17 (some 123) #[true, true, true, true, true, true, true, true, true, true, true, true, true, true, true, true, true, true, false, false, false, false, false, false, false, false, false, false, false, false, false, false, false, false, false, false, false, false, false, false] hS ?_
                    refine offE 18 (some 124) #[true, true, true, true, true, true, true, true, true, true, true, true, true, true, true, true, true, true, true, false, false, false, false, false, false, false, false, false, false, false, false, false, false, false, false, false, false, false, false, false] hS ?_
                    refine offE 19 (some 125) #[true, true, true, true, true, true, true, true, true, true, true, true, true, true, true, true, true, true, true, true, false, false, false, false, false, false, false, false, false, false, false, false, false, false, false, false, false, false, false, false] hS ?_
                    refine offE 20 (some 126) #[true, true, true, true, true, true, true, true, true, true, true, true, true, true, true, true, true, true, true, true, true, false, false, false, false, false, false, false, false, false, false, false, false, false, false, false, false, false, false, false] hS ?_
                    refine offE 21 (some 127) #[true, true, true, true, true, true, true, true, true, true, true, true, true, true, true, true, true, true, true, true, true, true, false, false, false, false, false, false, false, false, false, false, false, false, false, false, false, false, false, false] hS ?_
                    refine offE 22 (some 128) #[true, true, true, true, true, true, true, true, true, true, true, true, true, true, true, true, true, true, true, true, true, true, true, false, false, false, false, false, false, false, false, false, false, false, false, false, false, false, false, false] hS ?_
                    refine takeE 23 (some 129) #[true, true, true, true, true, true, true, true, true, true, true, true, true, true, true, true, true, true, true, true, true, true, true, true, false, false, false, false, false, false, false, false, false, false, false, false, false, false, false, false] hS ?_
                    refine takeE 24 (some 130) #[true, true, true, true, true, true, true, true, true, true, true, true, true, true, true, true, true, true, true, true, true, true, true, true, true, false, false, false, false, false, false, false, false, false, false, false, false, false, false, false] hS ?_
                    refine offE 25 (some 131) #[true, true, true, true, true, true, true, true, true, true, true, true, true, true, true, true, true, true, true, true, true, true, true, true, true, true, false, false, false, false, false, false, false, false, false, false, false, false, false, false] hS ?_
                    refine offE 26 (some 132) #[true, true, true, true, true, true, true, true, true, true, true, true, true, true, true, true, true, true, true, true, true, true, true, true, true, true, true, false, false, false, false, false, false, false, false, false, false, false, false, false] hS ?_
                    refine offE 27 (some 133) #[true, true, true, true, true, true, true, true, true, true, true, true, true, true, true, true, true, true, true, true, true, true, true, true, true, true, true, true, false, false, false, false, false, false, false, false, false, false, false, false] hS ?_
                    refine offE 28 (some 134) #[true, true, true, true, true, true, true, true, true, true, true, true, true, true, true, true, true, true, true, true, true, true, true, true, true, true, true, true, true, false, false, false, false, false, false, false, false, false, false, false] hS ?_
                    refine offE 29 (some 135) #[true, true, true, true, true, true, true, true, true, true, true, true, true, true, true, true, true, true, true, true, true, true, true, true, true, true, true, true, true, true, false, false, false, false, false, false, false, false, false, false] hS ?_
                    refine offE 30 (some 136) #[true, true, true, true, true, true, true, true, true, true, true, true, true, true, true, true, true, true, true, true, true, true, true, true, true, true, true, true, true, true, true, false, false, false, false, false, false, false, false, false] hS ?_
                    refine offE 31 (some 137) #[true, true, true, true, true, true, true, true, true, true, true, true, true, true, true, true, true, true, true, true, true, true, true, true, true, true, true, true, true, true, true, true, false, false, false, false, false, false, false, false] hS ?_
                    refine offE 32 (some 138) #[true, true, true, true, true, true, true, true, true, true, true, true, true, true, true, true, true, true, true, true, true, true, true, true, true, true, true, true, true, true, true, true, true, false, false, false, false, false, false, false] hS ?_
                    refine offE 33 (some 139) #[true, true, true, true, true, true, true, true, true, true, true, true, true, true, true, true, true, true, true, true, true, true, true, true, true, true, true, true, true, true, true, true, true, true, false, false, false, false, false, false] hS ?_
                    refine offE 34 (some 140) #[true, true, true, true, true, true, true, true, true, true, true, true, true, true, true, true, true, true, true, true, true, true, true, true, true, true, true, true, true, true, true, true, true, true, true, false, false, false, false, false] hS ?_
                    refine offE 35 (some 141) #[true, true, true, true, true, true, true, true, true, true, true, true, true, true, true, true, true, true, true, true, true, true, true, true, true, true, true, true, true, true, true, true, true, true, true, true, false, false, false, false] hS ?_
                    refine offE 36 (some 142) #[true, true, true, true, true, true, true, true, true, true, true, true, true, true, true, true, true, true, true, true, true, true, true, true, true, true, true, true, true, true, true, true, true, true, true, true, true, false, false, false] hS ?_
                    refine offE 37 (some 143) #[true, true, true, true, true, true, true, true, true, true, true, true, true, true, true, true, true, true, true, true, true, true, true, true, true, true, true, true, true, true, true, true, true, true, true, true, true, true, false, false] hS ?_
                    refine offE 38 (some 144) #[true, true, true, true, true, true, true, true, true, true, true, true, true, true, true, true, true, true, true, true, true, true, true, true, true, true, true, true, true, true, true, true, true, true, true, true, true, true, true, false] hS ?_
                    refine takeE 39 (some 145) #[true, true, true, true, true, true, true, true, true, true, true, true, true, true, true, true, true, true, true, true, true, true, true, true, true, true, true, true, true, true, true, true, true, true, true, true, true, true, true, true] hS ?_
                    refine wpAnyH_done (by kernel_rfl) ?_ _
                    try go_simp
                    have HS := Lib.hid (HBQ.out.trans (hS.mono HBQ.out.size))
                    have HRN := Lib.hid (Kd.R_below HRM.out hS)
                    clear hS
                    go_wp2
                    go_roundg gk
                    case measure => omega
                    case rel => exact ⟨k + 1, by first | rfl | (congr 1), by omega, by omega, by rw [HST2.out]; simpa using HRN.out, HS.out⟩
                  | true =>
                    cases bg with
                    | false =>
                      go_upto_region 30 with fail
                      refine wp_region_held_drew (S := fun w_ => Below WX.heap.size WX w_) (by kernel_rfl) (below_drew (Below.refl _ _)) (fun hS_ => ?_)
                      have hS : Below WX.heap.size WX _ := hS_
                      clear hS_
                      change wpAnyH _ _ _ _ _ 40 #[false, false, false, false, false, false, false, false, false, false, false, false, false, false, false, false, false, false, false, false, false, false, false, false, false, false, false, false, false, false, false, false, false, false, false, false, false, false, false, false] _ _
                      refine takeE 0 (some 106) #[true, false, false, false, false, false, false, false, false, false, false, false, false, false, false, false, false, false, false, false, false, false, false, false, false, false, false, false, false, false, false, false, false, false, false, false, false, false, false, false] hS ?_
                      refine takeE 1 (some 107) #[true, true, false, false, false, false, false, false, false, false, false, false, false, false, false, false, false, false, false, false, false, false, false, false, false, false, false, false, false, false, false, false, false, false, false, false, false, false, false, false] hS ?_
                      refine takeE 2 (some 108) #[true, true, true, false, false, false, false, false, false, false, false, false, false, false, false, false, false, false, false, false, false, false, false, false, false, false, false, false, false, false, false, false, false, false, false, false, false, false, false, false] hS ?_
                      refine takeE 3 (some 109) #[true, true, true, true, false, false, false, false, false, false, false, false, false, false, false, false, false, false, false, false, false, false, false, false, false, false, false, false, false, false, false, false, false, false, false, false, false, false, false, false] hS ?_
                      refine takeE 4 (some 110) #[true, true, true, true, true, false, false, false, false, false, false, false, false, false, false, false, false, false, false, false, false, false, false, false, false, false, false, false, false, false, false, false, false, false, false, false, false, false, false, false] hS ?_ (hy := fun w_ hS_ => by (replace hS_ : Below WX.heap.size WX w_ := hS_); have a0_ := below_cell hS_ (HY0.out); go_simp <;> with_reducible rfl)
                      refine takeE 5 (some 111) #[true, true, true, true, true, true, false, false, false, false, false, false, false, false, false, false, false, false, false, false, false, false, false, false, false, false, false, false, false, false, false, false, false, false, false, false, false, false, false, false] hS ?_
                      refine takeE 6 (some 112) #[true, true, true, true, true, true, true, false, false, false, false, false, false, false, false, false, false, false, false, false, false, false, false, false, false, false, false, false, false, false, false, false, false, false, false, false, false, false, false, false] hS ?_
                      refine takeE 7 (some 113) #[true, true, true, true, true, true, true, true, false, false, false, false, false, false, false, false, false, false, false, false, false, false, false, false, false, false, false, false, false, false, false, false, false, false, false, false, false, false, false, false] hS ?_
                      refine takeE 8 (some 114) #[true, true, true, true, true, true, true, true, true, false, false, false, false, false, false, false, false, false, false, false, false, false, false, false, false, false, false, false, false, false, false, false, false, false, false, false, false, false, false, false] hS ?_
                      refine takeE 9 (some 115) #[true, true, true, true, true, true, true, true, true, true, false, false, false, false, false, false, false, false, false, false, false, false, false, false, false, false, false, false, false, false, false, false, false, false, false, false, false, false, false, false] hS ?_ (hy := fun w_ hS_ => by (replace hS_ : Below WX.heap.size WX w_ := hS_); have a0_ := below_cell hS_ (below_cell HBQ.out HX0.out); go_simp <;> with_reducible rfl)
                      refine takeE 10 (some 116) #[true, true, true, true, true, true, true, true, true, true, true, false, false, false, false, false, false, false, false, false, false, false, false, false, false, false, false, false, false, false, false, false, false, false, false, false, false, false, false, false] hS ?_
                      refine takeE 11 (some 117) #[true, true, true, true, true, true, true, true, true, true, true, true, false, false, false, false, false, false, false, false, false, false, false, false, false, false, false, false, false, false, false, false, false, false, false, false, false, false, false, false] hS ?_
                      refine takeE 12 (some 118) #[true, true, true, true, true, true, true, true, true, true, true, true, true, false, false, false, false, false, false, false, false, false, false, false, false, false, false, false, false, false, false, false, false, false, false, false, false, false, false, false] hS ?_
                      refine takeE 13 (some 119) #[true, true, true, true, true, true, true, true, true, true, true, true, true, true, false, false, false, false, false, false, false, false, false, false, false, false, false, false, false, false, false, false, false, false, false, false, false, false, false, false] hS ?_
                      refine takeE 14 (some 120) #[true, true, true, true, true, true, true, true, true, true, true, true, true, true, true, false, false, false, false, false, false, false, false, false, false, false, false, false, false, false, false, false, false, false, false, false, false, false, false, false] hS ?_
                      refine takeE 15 (some 121) #[true, true, true, true, true, true, true, true, true, true, true, true, true, true, true, true, false, false, false, false, false, false, false, false, false, false, false, false, false, false, false, false, false, false, false, false, false, false, false, false] hS ?_
                      refine takeE 16 (some 122) #[true, true, true, true, true, true, true, true, true, true, true, true, true, true, true, true, true, false, false, false, false, false, false, false, false, false, false, false, false, false, false, false, false, false, false, false, false, false, false, false] hS ?_ (hy := fun w_ hS_ => by (replace hS_ : Below WX.heap.size WX w_ := hS_); have a0_ := below_cell hS_ (HY1.out); go_simp <;> with_reducible rfl)
                      refine takeE 17 (some 123) #[true, true, true, true, true, true, true, true, true, true, true, true, true, true, true, true, true, true, false, false, false, false, false, false, false, false, false, false, false, false, false, false, false, false, false, false, false, false, false, false] hS ?_
                      refine takeE 18 (some 124) #[true, true, true, true, true, true, true, true, true, true, true, true, true, true, true, true, true, true, true, false, false, false, false, false, false, false, false, false, false, false, false, false, false, false, false, false, false, false, false, false] hS ?_
                      refine takeE 19 (some 125) #[true, true, true, true, true, true, true, true, true, true, true, true, true, true, true, true, true, true, true, true, false, false, false, false, false, false, false, false, false, false, false, false, false, false, false, false, false, false, false, false] hS ?_
                      refine takeE 20 (some 126) #[true, true, true, true, true, true, true, true, true, true, true, true, true, true, true, true, true, true, true, true, true, false, false, false, false, false, false, false, false, false, false, false, false, false, false, false, false, false, false, false] hS ?_
                      refine takeE 21 (some 127) #[true, true, true, true, true, true, true, true, true, true, true, true, true, true, true, true, true, true, true, true, true, true, false, false, false, false, false, false, false, false, false, false, false, false, false, false, false, false, false, false] hS ?_ (hy := fun w_ hS_ => by (replace hS_ : Below WX.heap.size WX w_ := hS_); have a0_ := below_cell hS_ (below_cell HBQ.out HX1.out); go_simp <;> with_reducible rfl)
                      refine takeE 22 (some 128) #[true, true, true, true, true, true, true, true, true, true, true, true, true, true, true, true, true, true, true, true, true, true, true, false, false, false, false, false, false, false, false, false, false, false, false, false, false, false, false, false] hS ?_
                      refine takeE 23 (some 129) #[true, true, true, true, true, true, true, true, true, true, true, true, true, true, true, true, true, true, true, true, true, true, true, true, false, false, false, false, false, false, false, false, false, false, false, false, false, false, false, false] hS ?_
                      refine takeE 24 (some 130) #[true, true, true, true, true, true, true, true, true, true, true, true, true, true, true, true, true, true, true, true, true, true, true, true, true, false, false, false, false, false, false, false, false, false, false, false, false, false, false, false] hS ?_
                      refine offE 25 (some 131) #[true, true, true, true, true, true, true, true, true, true, true, true, true, true, true, true, true, true, true, true, true, true, true, true, true, true, false, false, false, false, false, false, false, false, false, false, false, false, false, false] hS ?_
                      refine offE 26 (some 132) #[true, true, true, true, true, true, true, true, true, true, true, true, true, true, true, true, true, true, true, true, true, true, true, true, true, true, true, false, false, false, false, false, false, false, false, false, false, false, false, false] hS ?_
                      refine offE 27 (some 133) #[true, true, true, true, true, true, true, true, true, true, true, true, true, true, true, true, true, true, true, true, true, true, true, true, true, true, true, true, false, false, false, false, false, false, false, false, false, false, false, false] hS ?_
                      refine offE 28 (some 134) #[true, true, true, true, true, true, true, true, true, true, true, true, true, true, true, true, true, true, true, true, true, true, true, true, true, true, true, true, true, false, false, false, false, false, false, false, false, false, false, false] hS ?_
                      refine offE 29 (some 135) #[true, true, true, true, true, true, true, true, true, true, true, true, true, true, true, true, true, true, true, true, true, true, true, true, true, true, true, true, true, true, false, false, false, false, false, false, false, false, false, false] hS ?_
                      refine offE 30 (some 136) #[true, true, true, true, true, true, true, true, true, true, true, true, true, true, true, true, true, true, true, true, true, true, true, true, true, true, true, true, true, true, true, false, false, false, false, false, false, false, false, false] hS ?_
                      refine offE 31 (some 137) #[true, true, true, true, true, true, true, true, true, true, true, true, true, true, true, true, true, true, true, true, true, true, true, true, true, true, true, true, true, true, true, true, false, false, false, false, false, false, false, false] hS ?_
                      refine offE 32 (some 138) #[true, true, true, true, true, true, true, true, true, true, true, true, true, true, true, true, true, true, true, true, true, true, true, true, true, true, true, true, true, true, true, true, true, false, false, false, false, false, false, false] hS ?_
                      refine offE 33 (some 139) #[true, true, true, true, true, true, true, true, true, true, true, true, true, true, true, true, true, true, true, true, true, true, true, true, true, true, true, true, true, true, true, true, true, true, false, false, false, false, false, false] hS ?_
                      refine offE 34 (some 140) #[true, true, true, true, true, true, true, true, true, true, true, true, true, true, true, true, true, true, true, true, true, true, true, true, true, true, true, true, true, true, true, true, true, true, true, false, false, false, false, false] hS ?_
                      refine offE 35 (some 141) #[true, true, true, true, true, true, true, true, true, true, true, true, true, true, true, true, true, true, true, true, true, true, true, true, true, true, true, true, true, true, true, true, true, true, true, true, false, false, false, false] hS ?_
                      refine offE 36 (some 142) #[true, true, true, true, true, true, true, true, true, true, true, true, true, true, true, true, true, true, true, true, true, true, true, true, true, true, true, true, true, true, true, true, true, true, true, true, true, false, false, false] hS ?_
                      refine offE 37 (some 143) #[true, true, true, true, true, true, true, true, true, true, true, true, true, true, true, true, true, true, true, true, true, true, true, true, true, true, true, true, true, true, true, true, true, true, true, true, true, true, false, false] hS ?_
                      refine offE 38 (some 144) #[true, true, true, true, true, true, true, true, true, true, true, true, true, true, true, true, true, true, true, true, true, true, true, true, true, true, true, true, true, true, true, true, true, true, true, true, true, true, true, false] hS ?_
                      refine takeE 39 (some 145) #[true, true, true, true, true, true, true, true, true, true, true, true, true, true, true, true, true, true, true, true, true, true, true, true, true, true, true, true, true, true, true, true, true, true, true, true, true, true, true, true] hS ?_
                      refine wpAnyH_done (by kernel_rfl) ?_ _
                      try go_simp
                      have HS := Lib.hid (HBQ.out.trans (hS.mono HBQ.out.size))
                      have HRN := Lib.hid (Kd.R_below HRM.out hS)
                      clear hS
                      go_wp2
                      go_roundg gk
                      case measure => omega
                      case rel => exact ⟨k + 1, by first | rfl | (congr 1), by omega, by omega, by rw [HST2.out]; simpa using HRN.out, HS.out⟩
                    | true =>
                      go_upto_region 30 with fail
                      refine wp_region_held_drew (S := fun w_ => Below WX.heap.size WX w_) (by kernel_rfl) (below_drew (Below.refl _ _)) (fun hS_ => ?_)
                      have hS : Below WX.heap.size WX _ := hS_
                      clear hS_
                      change wpAnyH _ _ _ _ _ 40 #[false, false, false, false, false, false, false, false, false, false, false, false, false, false, false, false, false, false, false, false, false, false, false, false, false, false, false, false, false, false, false, false, false, false, false, false, false, false, false, false] _ _
                      refine takeE 0 (some 106) #[true, false, false, false, false, false, false, false, false, false, false, false, false, false, false, false, false, false, false, false, false, false, false, false, false, false, false, false, false, false, false, false, false, false, false, false, false, false, false, false] hS ?_
                      refine takeE 1 (some 107) #[true, true, false, false, false, false, false, false, false, false, false, false, false, false, false, false, false, false, false, false, false, false, false, false, false, false, false, false, false, false, false, false, false, false, false, false, false, false, false, false] hS ?_
                      refine takeE 2 (some 108) #[true, true, true, false, false, false, false, false, false, false, false, false, false, false, false, false, false, false, false, false, false, false, false, false, false, false, false, false, false, false, false, false, false, false, false, false, false, false, false, false] hS ?_
                      refine takeE 3 (some 109) #[true, true, true, true, false, false, false, false, false, false, false, false, false, false, false, false, false, false, false, false, false, false, false, false, false, false, false, false, false, false, false, false, false, false, false, false, false, false, false, false] hS ?_
                      refine takeE 4 (some 110) #[true, true, true, true, true, false, false, false, false, false, false, false, false, false, false, false, false, false, false, false, false, false, false, false, false, false, false, false, false, false, false, false, false, false, false, false, false, false, false, false] hS ?_ (hy := fun w_ hS_ => by (replace hS_ : Below WX.heap.size WX w_ := hS_); have a0_ := below_cell hS_ (HY0.out); go_simp <;> with_reducible rfl)
                      refine takeE 5 (some 111) #[true, true, true, true, true, true, false, false, false, false, false, false, false, false, false, false, false, false, false, false, false, false, false, false, false, false, false, false, false, false, false, false, false, false, false, false, false, false, false, false] hS ?_
                      refine takeE 6 (some 112) #[true, true, true, true, true, true, true, false, false, false, false, false, false, false, false, false, false, false, false, false, false, false, false, false, false, false, false, false, false, false, false, false, false, false, false, false, false, false, false, false] hS ?_
                      refine takeE 7 (some 113) #[true, true, true, true, true, true, true, true, false, false, false, false, false, false, false, false, false, false, false, false, false, false, false, false, false, false, false, false, false, false, false, false, false, false, false, false, false, false, false, false] hS ?_
                      refine takeE 8 (some 114) #[true, true, true, true, true, true, true, true, true, false, false, false, false, false, false, false, false, false, false, false, false, false, false, false, false, false, false, false, false, false, false, false, false, false, false, false, false, false, false, false] hS ?_
                      refine takeE 9 (some 115) #[true, true, true, true, true, true, true, true, true, true, false, false, false, false, false, false, false, false, false, false, false, false, false, false, false, false, false, false, false, false, false, false, false, false, false, false, false, false, false, false] hS ?_ (hy := fun w_ hS_ => by (replace hS_ : Below WX.heap.size WX w_ := hS_); have a0_ := below_cell hS_ (below_cell HBQ.out HX0.out); go_simp <;> with_reducible rfl)
                      refine takeE 10 (some 116) #[true, true, true, true, true, true, true, true, true, true, true, false, false, false, false, false, false, false, false, false, false, false, false, false, false, false, false, false, false, false, false, false, false, false, false, false, false, false, false, false] hS ?_
                      refine takeE 11 (some 117) #[true, true, true, true, true, true, true, true, true, true, true, true, false, false, false, false, false, false, false, false, false, false, false, false, false, false, false, false, false, false, false, false, false, false, false, false, false, false, false, false] hS ?_
                      refine takeE 12 (some 118) #[true, true, true, true, true, true, true, true, true, true, true, true, true, false, false, false, false, false, false, false, false, false, false, false, false, false, false, false, false, false, false, false, false, false, false, false, false, false, false, false] hS ?_
                      refine takeE 13 (some 119) #[true, true, true, true, true, true, true, true, true, true, true, true, true, true, false, false, false, false, false, false, false, false, false, false, false, false, false, false, false, false, false, false, false, false, false, false, false, false, false, false] hS ?_
                      refine takeE 14 (some 120) #[true, true, true, true, true, true, true, true, true, true, true, true, true, true, true, false, false, false, false, false, false, false, false, false, false, false, false, false, false, false, false, false, false, false, false, false, false, false, false, false] hS ?_
                      refine takeE 15 (some 121) #[true, true, true, true, true, true, true, true, true, true, true, true, true, true, true, true, false, false, false, false, false, false, false, false, false, false, false, false, false, false, false, false, false, false, false, false, false, false, false, false] hS ?_
                      refine takeE 16 (some 122) #[true, true, true, true, true, true, true, true, true, true, true, true, true, true, true, true, true, false, false, false, false, false, false, false, false, false, false, false, false, false, false, false, false, false, false, false, false, false, false, false] hS ?_ (hy := fun w_ hS_ => by (replace hS_ : Below WX.heap.size WX w_ := hS_); have a0_ := below_cell hS_ (HY1.out); go_simp <;> with_reducible rfl)
                      refine takeE 17 (some 123) #[true, true, true, true, true, true, true, true, true, true, true, true, true, true, true, true, true, true, false, false, false, false, false, false, false, false, false, false, false, false, false, false, false, false, false, false, false, false, false, false] hS ?_
                      refine takeE 18 (some 124) #[true, true, true, true, true, true, true, true, true, true, true, true, true, true, true, true, true, true, true, false, false, false, false, false, false, false, false, false, false, false, false, false, false, false, false, false, false, false, false, false] hS ?_
                      refine takeE 19 (some 125) #[true, true, true, true, true, true, true, true, true, true, true, true, true, true, true, true, true, true, true, true, false, false, false, false, false, false, false, false, false, false, false, false, false, false, false, false, false, false, false, false] hS ?_
                      refine takeE 20 (some 126) #[true, true, true, true, true, true, true, true, true, true, true, true, true, true, true, true, true, true, true, true, true, false, false, false, false, false, false, false, false, false, false, false, false, false, false, false, false, false, false, false] hS ?_
                      refine takeE 21 (some 127) #[true, true, true, true, true, true, true, true, true, true, true, true, true, true, true, true, true, true, true, true, true, true, false, false, false, false, false, false, false, false, false, false, false, false, false, false, false, false, false, false] hS ?_ (hy := fun w_ hS_ => by (replace hS_ : Below WX.heap.size WX w_ := hS_); have a0_ := below_cell hS_ (below_cell HBQ.out HX1.out); go_simp <;> with_reducible rfl)
                      refine takeE 22 (some 128) #[true, true, true, true, true, true, true, true, true, true, true, true, true, true, true, true, true, true, true, true, true, true, true, false, false, false, false, false, false, false, false, false, false, false, false, false, false, false, false, false] hS ?_
                      refine takeE 23 (some 129) #[true, true, true, true, true, true, true, true, true, true, true, true, true, true, true, true, true, true, true, true, true, true, true, true, false, false, false, false, false, false, false, false, false, false, false, false, false, false, false, false] hS ?_
                      refine takeE 24 (some 130) #[true, true, true, true, true, true, true, true, true, true, true, true, true, true, true, true, true, true, true, true, true, true, true, true, true, false, false, false, false, false, false, false, false, false, false, false, false, false, false, false] hS ?_
                      refine takeE 25 (some 131) #[true, true, true, true, true, true, true, true, true, true, true, true, true, true, true, true, true, true, true, true, true, true, true, true, true, true, false, false, false, false, false, false, false, false, false, false, false, false, false, false] hS ?_
                      refine takeE 26 (some 132) #[true, true, true, true, true, true, true, true, true, true, true, true, true, true, true, true, true, true, true, true, true, true, true, true, true, true, true, false, false, false, false, false, false, false, false, false, false, false, false, false] hS ?_
                      refine takeE 27 (some 133) #[true, true, true, true, true, true, true, true, true, true, true, true, true, true, true, true, true, true, true, true, true, true, true, true, true, true, true, true, false, false, false, false, false, false, false, false, false, false, false, false] hS ?_
                      refine takeE 28 (some 134) #[true, true, true, true, true, true, true, true, true, true, true, true, true, true, true, true, true, true, true, true, true, true, true, true, true, true, true, true, true, false, false, false, false, false, false, false, false, false, false, false] hS ?_
                      refine takeE 29 (some 135) #[true, true, true, true, true, true, true, true, true, true, true, true, true, true, true, true, true, true, true, true, true, true, true, true, true, true, true, true, true, true, false, false, false, false, false, false, false, false, false, false] hS ?_ (hy := fun w_ hS_ => by (replace hS_ : Below WX.heap.size WX w_ := hS_); have a0_ := below_cell hS_ (HY1.out); go_simp <;> with_reducible rfl)
                      refine takeE 30 (some 136) #[true, true, true, true, true, true, true, true, true, true, true, true, true, true, true, true, true, true, true, true, true, true, true, true, true, true, true, true, true, true, true, false, false, false, false, false, false, false, false, false] hS ?_
                      refine takeE 31 (some 137) #[true, true, true, true, true, true, true, true, true, true, true, true, true, true, true, true, true, true, true, true, true, true, true, true, true, true, true, true, true, true, true, true, false, false, false, false, false, false, false, false] hS ?_
                      refine takeE 32 (some 138) #[true, true, true, true, true, true, true, true, true, true, true, true, true, true, true, true, true, true, true, true, true, true, true, true, true, true, true, true, true, true, true, true, true, false, false, false, false, false, false, false] hS ?_
                      refine takeE 33 (some 139) #[true, true, true, true, true, true, true, true, true, true, true, true, true, true, true, true, true, true, true, true, true, true, true, true, true, true, true, true, true, true, true, true, true, true, false, false, false, false, false, false] hS ?_
                      refine takeE 34 (some 140) #[true, true, true, true, true, true, true, true, true, true, true, true, true, true, true, true, true, true, true, true, true, true, true, true, true, true, true, true, true, true, true, true, true, true, true, false, false, false, false, false] hS ?_ (hy := fun w_ hS_ => by (replace hS_ : Below WX.heap.size WX w_ := hS_); have a0_ := below_cell hS_ (below_cell HBQ.out HX1.out); go_simp <;> with_reducible rfl)
                      refine takeE 35 (some 141) #[true, true, true, true, true, true, true, true, true, true, true, true, true, true, true, true, true, true, true, true, true, true, true, true, true, true, true, true, true, true, true, true, true, true, true, true, false, false, false, false] hS ?_
                      refine takeE 36 (some 142) #[true, true, true, true, true, true, true, true, true, true, true, true, true, true, true, true, true, true, true, true, true, true, true, true, true, true, true, true, true, true, true, true, true, true, true, true, true, false, false, false] hS ?_ (hy := fun w_ hS_ => by (replace hS_ : Below WX.heap.size WX w_ := hS_); have a0_ := below_cell hS_ (below_cell HBQ.out HG0.out); go_simp <;> with_reducible rfl)
                      refine takeE 37 (some 143) #[true, true, true, true, true, true, true, true, true, true, true, true, true, true, true, true, true, true, true, true, true, true, true, true, true, true, true, true, true, true, true, true, true, true, true, true, true, true, false, false] hS ?_
                      refine takeE 38 (some 144) #[true, true, true, true, true, true, true, true, true, true, true, true, true, true, true, true, true, true, true, true, true, true, true, true, true, true, true, true, true, true, true, true, true, true, true, true, true, true, true, false] hS ?_
                      refine takeE 39 (some 145) #[true, true, true, true, true, true, true, true, true, true, true, true, true, true, true, true, true, true, true, true, true, true, true, true, true, true, true, true, true, true, true, true, true, true, true, true, true, true, true, true] hS ?_
                      refine wpAnyH_done (by kernel_rfl) ?_ _
                      try go_simp
                      have HS := Lib.hid (HBQ.out.trans (hS.mono HBQ.out.size))
                      have HRN := Lib.hid (Kd.R_below HRM.out hS)
                      have z1 := below_cell hS HZ0.out
                      clear hS
                      cases bl with
                      | false =>
                        go_wp2
                        go_roundg gk
                        case measure => omega
                        case rel => exact ⟨k + 1, by first | rfl | (congr 1), by omega, by omega, by rw [HST2.out]; simpa using HRN.out, HS.out⟩
                      | true =>
                        go_wp2_with (first | ((with_reducible refine gate_builtin (b := .append) (xs := #[.tmp 146, .tmp 151]) rfl ?_); at_builtin; refine Kd.R_append (Kd.int .i64) (w0 := WI) WI.heap.size rfl (.tmp 146) (.tmp 151) 53 3 (.int .i64 0) 8 rfl Try.underlying53 info3 rfl (by decide) (by omega) (.slice Am ml.length cm) ml z [.int .i64 z] (fun _ => True) (fun _ => False) rfl rfl ?aP (fun _ hk => hk.elim) ?aF HRN.out HS.out HS.out.size ?aL ?_; (case aP => exact rfl); (case aF => exact (fun _ _ => trivial)); (case aL => omega); intro v9 w9 ho hb hg hat; have HN9 := Lib.hid ho; have HB9 := Lib.hid hb; clear ho hb hg hat))
                        go_roundg gk
                        case measure => omega
                        case rel => exact ⟨k + 1, by first | rfl | (congr 1), by omega, by omega, by rw [HST2.out]; simpa using HN9.out, HB9.out⟩
              case rest =>
                obtain ⟨hRm, hbq⟩ := hcut
                obtain ⟨ml, hml2⟩ : ∃ q, mineP g x rs = q := ⟨_, rfl⟩
                have hmr := HMR.out
                have hxa := HXA.out
                have hns := HNS.out
                rw [hml2] at hml hmr hxa hns hRm
                obtain ⟨Am, cm, rfl, hcm, hLM⟩ := Kd.R_reads hRm
                obtain ⟨WX, hWX⟩ : ∃ W, W = wc := ⟨_, rfl⟩
                subst hWX
                have hml60 : ml.length ≤ 60 := by omega
                have hall := fun (w : World) (h : (Kd.int .i64).C w Am ml.length ml) => allR_calls ml hmr (by omega) Am cm w h hcm
                rw [← hxa] at hall
                have hwn : IntKind.i64.wrap (nn + (ml.length : Int)) = nn + (ml.length : Int) := by rw [IntKind.wrap_i64]; omega
                have HBQ := Lib.hid hbq
                have HLM := Lib.hid hLM
                have HALL := Lib.hid hall
                have HNS2 := Lib.hid hns
                clear hRm hbq hmr hxa hns hml2 hLM hall HMR HXA HNS HRI HVI HG0 HXS
                have he42 : ∀ w, (Op.equalIn 9999 42 (.agg #[.int .i64 x.f2.f4.f0, .int .i64 x.f2.f4.f1, .int .i64 x.f2.f4.f2, .int .i64 x.f2.f4.f3]) (.agg #[.int .i64 x.f2.f4.f0, .int .i64 x.f2.f4.f1, .int .i64 x.f2.f4.f2, .int .i64 x.f2.f4.f3])).run Try.prog w = .ok true w := fun w => by simpa using eqA42 9997 w x.f2.f4.f0 x.f2.f4.f0 x.f2.f4.f1 x.f2.f4.f1 x.f2.f4.f2 x.f2.f4.f2 x.f2.f4.f3 x.f2.f4.f3
                have HE42 := Lib.hid he42
                clear he42
                go_upto_region 32 with fail
                refine wp_region_held_drew (S := fun w_ => Below WX.heap.size WX w_) (by kernel_rfl) (below_drew (Below.refl _ _)) (fun hS_ => ?_)
                have hS : Below WX.heap.size WX _ := hS_
                clear hS_
                change wpAnyH _ _ _ _ _ 8 #[false, false, false, false, false, false, false, false] _ _
                refine takeE 0 (some 153) #[true, false, false, false, false, false, false, false] hS ?_
                refine takeE 1 (some 154) #[true, true, false, false, false, false, false, false] hS ?_
                refine takeE 2 (some 155) #[true, true, true, false, false, false, false, false] hS ?_
                refine takeE 3 (some 156) #[true, true, true, true, false, false, false, false] hS ?_
                refine takeE 4 (some 157) #[true, true, true, true, true, false, false, false] hS ?_ (hy := fun w_ hS_ => by (replace hS_ : Below WX.heap.size WX w_ := hS_); have a2_ := below_cell hS_ (below_cell HBQ.out HX2.out); have a3_ := below_cell hS_ (below_cell HBQ.out HX3.out); have a4_ := below_cell hS_ (below_cell HBQ.out HX4.out); have a5_ := below_cell hS_ (below_cell HBQ.out HX5.out); have a6_ := below_cell hS_ (below_cell HBQ.out HX6.out); have a7_ := below_cell hS_ (below_cell HBQ.out HX7.out); have a8_ := below_cell hS_ (below_cell HBQ.out HX8.out); have a9_ := below_cell hS_ (below_cell HBQ.out HX9.out); have a10_ := below_cell hS_ (below_cell HBQ.out HX10.out); have a11_ := below_cell hS_ (below_cell HBQ.out HX11.out); go_simp <;> with_reducible rfl)
                refine takeE 5 (some 158) #[true, true, true, true, true, true, false, false] hS ?_
                refine doD (i := 6) (ls2 := #[true, true, true, true, true, true, true, false]) (by kernel_rfl) rfl (by kernel_rfl) (by kernel_rfl) (fun K hK => ?_)
                go_simp
                go_wp2_with (first | (go_at_call 26; go_loud ((with_reducible refine (HALL.out _ (Kd.C_below HLM.out hS)).mono ?_); rintro e w3 ⟨rfl, hb3⟩)))
                refine hK.out _ _ ?_ (fun hS_ => ?_)
                · show Below WX.heap.size WX _
                  exact hS.trans (hb3.mono hS.size)
                clear hK K hS hb3
                have hS : Below WX.heap.size WX _ := hS_
                clear hS_
                refine takeE 7 (some 160) #[true, true, true, true, true, true, true, true] hS ?_ (hy := fun w_ hS_ => by (replace hS_ : Below WX.heap.size WX w_ := hS_); have e42_ := HE42.out; go_simp <;> with_reducible rfl)
                refine wpAnyH_done (by kernel_rfl) ?_ _
                try go_simp
                have HS := Lib.hid (HBR.out.trans ((HBQ.out.trans (hS.mono HBQ.out.size)).mono HBR.out.size))
                clear hS
                go_wp2
                go_roundg og
                case measure => omega
                case rel => exact ⟨i + 1, by first | rfl | (congr 1), by omega, by omega, by rw [HNS2.out], HS.out⟩
          case rest =>
            obtain ⟨rfl, hbw⟩ := hcut
            have hcn : numN g rs LA = numS g rs := HCN.out
            have hsr := numS_range g HGC.out rs
            rw [hcn]
            have HG0 := Lib.hid (below_cell hbw HK0.out)
            have HG1 := Lib.hid (below_cell hbw HK1.out)
            have HG2 := Lib.hid (below_cell hbw HK2.out)
            have HRI := Lib.hid (Kd.C_below HRB.out hbw)
            have HBX := Lib.hid (HBW.out.trans (hbw.mono HBW.out.size))
            obtain ⟨WI, hWI⟩ : ∃ W, W = wc := ⟨_, rfl⟩
            subst hWI
            clear hcn hbw HK0 HK1 HK2 HRB HVB HBW HCN HAGG HST HVS HVR
            go_wp2
            go_loopg [13, 17] rs.length (fun kq v13 v17 WX => ∃ (k : Nat), v17 = .int .i64 (k : Int) ∧ k ≤ rs.length ∧ rs.length - k ≤ kq ∧ v13 = .int .i64 (numS g rs - numS g (rs.take k)) ∧ Below WI.heap.size WI WX)
            case atStart => exact ⟨0, rfl, Nat.zero_le _, by omega, by simp [numS], Below.refl _ _⟩
            case round =>
              obtain ⟨k, rfl, hkl, hkk, rfl, hbq⟩ := hrel
              by_cases hlk : k < rs.length
              rotate_left
              · have d3 : decide ((k : Int) < (rs.length : Int)) = false := decide_eq_false (by omega)
                have e0 : numS g rs - numS g (rs.take k) = 0 := by rw [List.take_of_length_le (show rs.length ≤ k by omega)]; omega
                rw [e0]
                have HBQ := Lib.hid hbq
                clear hbq e0
                go_wp2_with (first | (go_at_call 20; go_loud ((with_reducible refine (awake_calls _).mono ?_); rintro e w9 ⟨rfl, hb9⟩)))
                go_ret
                exact ⟨rfl, (HBX.out.trans (HBQ.out.mono HBX.out.size)).trans (hb9.mono (Nat.le_trans HBX.out.size HBQ.out.size))⟩
              have d3 : decide ((k : Int) < (rs.length : Int)) = true := decide_eq_true (by omega)
              have hbk : (0 : Int) ≤ (k : Int) ∧ (k : Int) < (rs.length : Int) := by omega
              have hwk : IntKind.i64.wrap ((k : Int) + 1) = (k : Int) + 1 := by rw [IntKind.wrap_i64]; omega
              obtain ⟨ar, har, y0, y1, y2⟩ := at_T50 (Kd.C_below HRI.out hbq) (k : Int) (by omega) (by omega)
              cases har
              rw [Int.toNat_natCast] at y1
              have hy : rd_T50 rs (k : Int) = rs[k] := by simp [rd_T50, List.getD, List.getElem?_eq_getElem hlk]
              have htm := HTM.out _ (List.getElem_mem hlk)
              have htk : numS g (rs.take (k + 1)) = numS g (rs.take k ++ [rs[k]]) := by rw [List.take_succ_eq_append_getElem hlk]
              rw [numS_snoc] at htk
              rw [← hy] at htm htk
              obtain ⟨y, hyy⟩ : ∃ y, rd_T50 rs (k : Int) = y := ⟨_, rfl⟩
              rw [hyy] at y1 htm htk
              have hst := fun w => startsRef_calls HGC.out htm.1 htm.2 w
              have hsl := startsP_length g y.f1 HGC.out
              have hsk := numS_range g HGC.out (rs.take k)
              have htl : (rs.take k).length ≤ 60 := by rw [List.length_take]; omega
              obtain ⟨ss, hss⟩ : ∃ q, startsP g y.f1 = q := ⟨_, rfl⟩
              rw [hss] at hst hsl htk
              obtain ⟨nn, hnn⟩ : ∃ q, numS g rs - numS g (rs.take k) = q := ⟨_, rfl⟩
              rw [hnn]
              have hnr : -1000 ≤ nn ∧ nn ≤ 1000 := by omega
              have hwn : IntKind.i64.wrap (nn - (ss.length : Int)) = nn - (ss.length : Int) := by rw [IntKind.wrap_i64]; omega
              have hne : nn - (ss.length : Int) = numS g rs - numS g (rs.take (k + 1)) := by omega
              have HST := Lib.hid hst
              have HY1 := Lib.hid y1
              have HBQ := Lib.hid hbq
              have HNE := Lib.hid hne
              cases gk with
              | zero => omega
              | succ gk =>
              obtain ⟨WX, hWX⟩ : ∃ W, W = wr := ⟨_, rfl⟩
              subst hWX
              clear y0 y1 y2 hy htm htk hyy hst hss hsk hsr hnn hbq hne
              go_upto_region 38 with fail
              refine wp_region_held_drew (S := fun w_ => Below WX.heap.size WX w_) (by kernel_rfl) (below_drew (Below.refl _ _)) (fun hS_ => ?_)
              have hS : Below WX.heap.size WX _ := hS_
              clear hS_
              change wpAnyH _ _ _ _ _ 12 #[false, false, false, false, false, false, false, false, false, false, false, false] _ _
              refine takeE 0 (some 172) #[true, false, false, false, false, false, false, false, false, false, false, false] hS ?_ (hy := fun w_ hS_ => by (replace hS_ : Below WX.heap.size WX w_ := hS_); have a0_ := below_cell hS_ (below_cell HBQ.out HG0.out); have a1_ := below_cell hS_ (below_cell HBQ.out HG1.out); have a2_ := below_cell hS_ (below_cell HBQ.out HG2.out); go_simp <;> with_reducible rfl)
              refine takeE 1 (some 173) #[true, true, false, false, false, false, false, false, false, false, false, false] hS ?_
              refine takeE 2 (some 174) #[true, true, true, false, false, false, false, false, false, false, false, false] hS ?_
              refine takeE 3 (some 175) #[true, true, true, true, false, false, false, false, false, false, false, false] hS ?_
              refine takeE 4 (some 176) #[true, true, true, true, true, false, false, false, false, false, false, false] hS ?_
              refine takeE 5 (some 177) #[true, true, true, true, true, true, false, false, false, false, false, false] hS ?_ (hy := fun w_ hS_ => by (replace hS_ : Below WX.heap.size WX w_ := hS_); have a0_ := below_cell hS_ HY1.out; go_simp <;> with_reducible rfl)
              refine doD (i := 6) (ls2 := #[true, true, true, true, true, true, true, false, false, false, false, false]) (by kernel_rfl) rfl (by kernel_rfl) (by kernel_rfl) (fun K hK => ?_)
              go_simp
              go_wp2_with (first | (go_at_call 27; go_loud ((with_reducible refine (HST.out _).mono ?_); rintro e w3 ⟨v3, rfl, hR3, hb3⟩; obtain ⟨A3, c3, rfl, hc3, _⟩ := Kd.R_reads hR3; clear hR3)))
              refine hK.out _ _ ?_ (fun hS_ => ?_)
              · show Below WX.heap.size WX _
                exact hS.trans (hb3.mono hS.size)
              clear hK K hS hb3
              have hS : Below WX.heap.size WX _ := hS_
              clear hS_
              refine takeE 7 (some 171) #[true, true, true, true, true, true, true, true, false, false, false, false] hS ?_
              refine takeE 8 (some 179) #[true, true, true, true, true, true, true, true, true, false, false, false] hS ?_
              refine takeE 9 (some 180) #[true, true, true, true, true, true, true, true, true, true, false, false] hS ?_
              refine takeE 10 (some 18) #[true, true, true, true, true, true, true, true, true, true, true, false] hS ?_
              refine takeE 11 (some 19) #[true, true, true, true, true, true, true, true, true, true, true, true] hS ?_
              refine wpAnyH_done (by kernel_rfl) ?_ _
              try go_simp
              have HS := Lib.hid (HBQ.out.trans (hS.mono HBQ.out.size))
              clear hS
              go_wp2
              go_roundg gk
              case measure => omega
              case rel => exact ⟨k + 1, by first | rfl | (congr 1), by omega, by omega, by rw [← HNE.out], HS.out⟩
end Go.Proofs.Ytgipepjpkmlmaaa.P
