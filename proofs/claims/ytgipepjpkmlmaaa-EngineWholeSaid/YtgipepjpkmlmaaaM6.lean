import Derived.Test.YtgipepjpkmlmaaaM5
namespace Go.Proofs.Ytgipepjpkmlmaaa.P
set_option linter.unusedVariables false
set_option linter.unusedSimpArgs false
section
open Go.RowKit Go.Proofs.YtgipepjpkmlmaaaW.PrintWords Go.Proofs.YtgipepjpkmlmaaaW.PrintLast Go.Proofs.YtgipepjpkmlmaaaW.PrintMore

/-- One start's part of it. -/
def takeS (key v t : Int) (l : List S46) : List S46 :=
  let x : S46 := ⟨key, t, z44⟩
  let l2 := if bsF l x = true then l else l.take (bsI l x) ++ x :: l.drop (bsI l x)
  let y := rd_T46 l2 (bsI l x : Int)
  l2.set (bsI l x) ⟨y.f0, y.f1, addP y.f2 v⟩
def takeN (key v : Int) (ts : List Int) (l : List S46) : List S46 := ts.foldl (fun l t => takeS key v t l) l
theorem bsL_le (l : List S46) (t : S46) : ∀ f i j, i ≤ j → bsL l t f i j ≤ j := by
  intro f
  induction f with
  | zero => intro i j h; exact h
  | succ f ih =>
    intro i j h
    rw [bsL]
    split
    · split
      · exact ih _ _ (by omega)
      · exact Nat.le_trans (ih _ _ (by omega)) (by omega)
    · exact h
theorem bsI_le (l : List S46) (t : S46) : bsI l t ≤ l.length := bsL_le l t _ 0 _ (Nat.zero_le _)
theorem takeS_length (key v t : Int) (l : List S46) : (takeS key v t l).length ≤ l.length + 1 := by
  unfold takeS
  simp only [List.length_set]
  split
  · omega
  · have := bsI_le l ⟨key, t, z44⟩
    simp
    omega
theorem takeN_length (key v : Int) (ts : List Int) (l : List S46) : (takeN key v ts l).length ≤ l.length + ts.length := by
  unfold takeN
  induction ts generalizing l with
  | nil => simp
  | cons t ts ih =>
    have h1 := takeS_length key v t l
    have h2 := ih (takeS key v t l)
    simp only [List.foldl_cons, List.length_cons]
    omega

theorem blk_own {w : World} {B k : Nat} {ok : Nat → Prop} {v : Value} {l : List S46} (hR : Kd.R k46 46 w B ok v l) (hk : v.ownBlock = some k) : ∃ o, w.heap[k]? = some o := by
  rcases (own_of_R hR).2 with ⟨e, _⟩ | ⟨g, cap, cur, e, _, h2, _⟩
  · subst e
    simp [Value.ownBlock] at hk
  · subst e
    have e2 : g = k := by simpa [Value.ownBlock] using hk
    subst e2
    exact ⟨_, h2⟩
def putIf (b : Bool) (w : World) (gs : Nat) (v : Value) : World := match b with
  | true => w.setCell ⟨gs, 4, none⟩ v
  | false => w
/-- A window's numbers, put into a row. -/
def putA (w : World) (gr n : Nat) (a : S44) : World := (((((((((w.setCell ⟨gr, n + 2, none⟩ (.int .i64 a.f0)).setCell ⟨gr, n + 2 + 1, none⟩ (.int .i64 a.f1)).setCell ⟨gr, n + 2 + 2, none⟩ (.int .i64 a.f2)).setCell ⟨gr, n + 2 + 3, none⟩ (.int .i64 a.f3)).setCell ⟨gr, n + 2 + 4, none⟩ (.int .i64 a.f4.f0)).setCell ⟨gr, n + 2 + 5, none⟩ (.int .i64 a.f4.f1)).setCell ⟨gr, n + 2 + 6, none⟩ (.int .i64 a.f4.f2)).setCell ⟨gr, n + 2 + 7, none⟩ (.int .i64 a.f4.f3)).setCell ⟨gr, n + 2 + 8, none⟩ (.int .i64 a.f5)).setCell ⟨gr, n + 2 + 9, none⟩ (.int .i64 a.f6)
theorem putA_heap {w : World} {gr : Nat} {l : List S46} {tl : List Value} (hg : w.heap[gr]? = some (.cells (flat l ++ tl).toArray 46 (0, 0))) (I : Nat) (hI : I < l.length) (a : S44) (y : S46) (hy : rd_T46 l (I : Int) = y) :
    (putA w gr (I * 12) a).heap[gr]? = some (.cells (flat (l.set I ⟨y.f0, y.f1, a⟩) ++ tl).toArray 46 (0, 0)) := by
  have hP : (flat (l.take I)).length = I * 12 := by rw [flat_length, List.length_take, Nat.min_eq_left (by omega)]
  rw [flat_at l I hI tl, hy] at hg
  rw [set_at l I hI]
  unfold putA
  have g0 := hg
  have g1 := blk_put g0 (I * 12 + 2) (.int .i64 a.f0) (set_mid _ _ _ 2 _ _ (by rw [hP]) (by simp [c12]))
  have g2 := blk_put g1 (I * 12 + 2 + 1) (.int .i64 a.f1) (set_mid _ _ _ 3 _ _ (by rw [hP]) (by simp [c12]))
  have g3 := blk_put g2 (I * 12 + 2 + 2) (.int .i64 a.f2) (set_mid _ _ _ 4 _ _ (by rw [hP]) (by simp [c12]))
  have g4 := blk_put g3 (I * 12 + 2 + 3) (.int .i64 a.f3) (set_mid _ _ _ 5 _ _ (by rw [hP]) (by simp [c12]))
  have g5 := blk_put g4 (I * 12 + 2 + 4) (.int .i64 a.f4.f0) (set_mid _ _ _ 6 _ _ (by rw [hP]) (by simp [c12]))
  have g6 := blk_put g5 (I * 12 + 2 + 5) (.int .i64 a.f4.f1) (set_mid _ _ _ 7 _ _ (by rw [hP]) (by simp [c12]))
  have g7 := blk_put g6 (I * 12 + 2 + 6) (.int .i64 a.f4.f2) (set_mid _ _ _ 8 _ _ (by rw [hP]) (by simp [c12]))
  have g8 := blk_put g7 (I * 12 + 2 + 7) (.int .i64 a.f4.f3) (set_mid _ _ _ 9 _ _ (by rw [hP]) (by simp [c12]))
  have g9 := blk_put g8 (I * 12 + 2 + 8) (.int .i64 a.f5) (set_mid _ _ _ 10 _ _ (by rw [hP]) (by simp [c12]))
  have g10 := blk_put g9 (I * 12 + 2 + 9) (.int .i64 a.f6) (set_mid _ _ _ 11 _ _ (by rw [hP]) (by simp [c12]))
  exact g10
theorem putA_below {B gr n : Nat} {w0 w : World} (h : Below B w0 w) (hg : B ≤ gr) (a : S44) : Below B w0 (putA w gr n a) := by
  unfold putA
  exact ((((((((((h.setCell hg _).setCell hg _).setCell hg _).setCell hg _).setCell hg _).setCell hg _).setCell hg _).setCell hg _).setCell hg _).setCell hg _)
set_option maxHeartbeats 16000000 in
set_option maxRecDepth 100000 in
theorem take_calls (key v : Int) (gs : Nat) (As : Option Addr) (cs : Nat) (ts : List Int) (A : Option Addr) (c : Nat) (l : List S46) (w : World) (p0 p1 p2 p3 : Value)
    (hbox : w.heap[gs]? = some (.cells #[p0, p1, p2, p3, .slice A l.length c] 28 (0, 0))) (hr : k46.C w A l.length l) (hc : l.length ≤ c) (hl : l.length ≤ 1000) (hn : A = none → l = [] ∧ c = 0)
    (ht : (Kd.int .i64).C w As ts.length ts) (htc : ts.length ≤ cs) (htl : ts.length ≤ 1000) :
    Calls Try.prog 57 #[.pointer (some ⟨gs, 0, none⟩), .int .i64 key, .int .i64 v, .slice As ts.length cs] w fun e w' =>
      ∃ wx v9, e = .returned (.bool (decide ((takeN key v ts l).length ≤ 64))) ∧ Below w.heap.size w wx ∧ Kd.R k46 46 wx w.heap.size (fun _ => True) v9 (takeN key v ts l) ∧
        w' = putIf (decide ((takeN key v ts l).length ≤ 64)) wx gs v9 := by
  have hclone := clone_calls A c l w hr hc (by omega) hn
  have hs4 : w.cell? ⟨gs, 4, none⟩ = some (.slice A l.length c) := (blk_cell hbox 4).trans rfl
  have hLl : (takeN key v ts l).length ≤ 2000 := by have := takeN_length key v ts l; omega
  obtain ⟨L, hL⟩ : ∃ L, takeN key v ts l = L := ⟨_, rfl⟩
  rw [hL] at hLl ⊢
  have HL := Lib.hid hL
  have HLL := Lib.hid hLl
  have HBOX := Lib.hid hbox
  clear hL hn hbox hLl
  go_enter Try.func57, Try.ntmps57
  go_wp2_with (first | (go_at_call 42; go_loud ((with_reducible refine hclone.mono ?_); rintro e w1 ⟨v9, rfl, hR1, hb1⟩)))
  clear hclone hs4
  go_loopg [9, 22] ts.length (fun kq v9 v22 wr => ∃ (i : Nat) (l1 : List S46), v22 = .int .i64 (i : Int) ∧ i ≤ ts.length ∧ ts.length - i ≤ kq ∧ l1.length ≤ l.length + i ∧ takeN key v (ts.drop i) l1 = L ∧ Kd.R k46 46 wr w.heap.size (fun _ => True) v9 l1 ∧ Below w.heap.size w wr)
  case atStart => exact ⟨0, l, rfl, Nat.zero_le _, by omega, by omega, HL.out, hR1, hb1⟩
  case round =>
    obtain ⟨i, l1, rfl, hil, hik, hl1, ho, hRw, hbw⟩ := hrel
    clear hR1 hb1 HL
    have hsz : w.heap.size ≤ wr.heap.size := hbw.size
    obtain ⟨A9, c9, rfl, hc9, hr9⟩ := Kd.R_reads hRw
    by_cases hlt : i < ts.length
    rotate_left
    · have d1 : decide ((i : Int) < (ts.length : Int)) = false := decide_eq_false (by omega)
      rw [List.drop_eq_nil_of_le (by omega)] at ho
      change l1 = L at ho
      subst ho
      have hcell : wr.frozen? ⟨gs, 4, none⟩ = false := blk_frozen (blk_below HBOX.out hbw) 4
      have hcel2 : wr.cell? ⟨gs, 4, none⟩ = some (.slice A l.length c) := (blk_cell (blk_below HBOX.out hbw) 4).trans rfl
      have HR := Lib.hid hRw
      have HB := Lib.hid hbw
      clear hRw hbw
      by_cases h64 : l1.length ≤ 64
      · have d2 : decide ((64 : Int) < (l1.length : Int)) = false := decide_eq_false (by omega)
        have d3 : decide (l1.length ≤ 64) = true := decide_eq_true h64
        have HH := Lib.hid h64
        clear h64
        go_wp2
        go_ret
        exact ⟨wr, _, by rw [d3]; rfl, HB.out, HR.out, by rw [d3]; rfl⟩
      · have d2 : decide ((64 : Int) < (l1.length : Int)) = true := decide_eq_true (by omega)
        have d3 : decide (l1.length ≤ 64) = false := decide_eq_false h64
        have HH := Lib.hid h64
        clear h64
        go_wp2
        go_ret
        exact ⟨wr, _, by rw [d3]; rfl, HB.out, HR.out, by rw [d3]; rfl⟩
    have d1 : decide ((i : Int) < (ts.length : Int)) = true := decide_eq_true (by omega)
    obtain ⟨t, hti⟩ : ∃ t, ts[i] = t := ⟨_, rfl⟩
    have htw := Kd.C_below ht hbw
    obtain ⟨ad, rfl, hx⟩ := Kd.at_int htw (i : Int) (by omega) (by omega)
    rw [Int.toNat_natCast, rdI ts i hlt, hti] at hx
    rw [List.drop_eq_getElem_cons hlt, hti] at ho
    change takeN key v (ts.drop (i + 1)) (takeS key v t l1) = L at ho
    cases gk with
    | zero => omega
    | succ gk =>
    obtain ⟨x, hxx⟩ : ∃ x : S46, x = ⟨key, t, z44⟩ := ⟨_, rfl⟩
    have hS : takeS key v t l1 = (if bsF l1 x = true then l1 else l1.take (bsI l1 x) ++ x :: l1.drop (bsI l1 x)).set (bsI l1 x) ⟨(rd_T46 (if bsF l1 x = true then l1 else l1.take (bsI l1 x) ++ x :: l1.drop (bsI l1 x)) (bsI l1 x : Int)).f0, (rd_T46 (if bsF l1 x = true then l1 else l1.take (bsI l1 x) ++ x :: l1.drop (bsI l1 x)) (bsI l1 x : Int)).f1, addP (rd_T46 (if bsF l1 x = true then l1 else l1.take (bsI l1 x) ++ x :: l1.drop (bsI l1 x)) (bsI l1 x : Int)).f2 v⟩ := by rw [hxx]; rfl
    have hSl := takeS_length key v t l1
    rw [hS] at ho hSl
    clear hS hti
    have hbs : ∀ w1, k46.C w1 A9 l1.length l1 → Calls Try.prog 85 #[.slice A9 l1.length c9, cellV x, .func (.func 48) #[] #[]] w1 fun e w' => e = .returned (.tuple #[.int .i64 (bsI l1 x : Nat), .bool (bsF l1 x)]) ∧ Below w1.heap.size w1 w' := fun w1 h => bs_calls A9 c9 l1 x w1 h hc9 (by omega)
    have hI := bsI_le l1 x
    have hFI : bsF l1 x = true → bsI l1 x < l1.length := by
      intro h
      unfold bsF at h
      simp only [Bool.and_eq_true, decide_eq_true_eq] at h
      exact h.1
    revert hbs hI hFI ho hSl
    generalize bsI l1 x = I
    generalize bsF l1 x = F
    intro ho hSl hbs hI hFI
    have hcv : cellV x = .agg #[.int .i64 key, .int .i64 t, .int .i64 0, .int .i64 0, .int .i64 0, .int .i64 0, .int .i64 0, .int .i64 0, .int .i64 0, .int .i64 0, .int .i64 0, .int .i64 0] := by rw [hxx]; rfl
    have hrb := hbs (wr.alloc (.cells #[.int .i64 key, .int .i64 t, .int .i64 0, .int .i64 0, .int .i64 0, .int .i64 0, .int .i64 0, .int .i64 0, .int .i64 0, .int .i64 0, .int .i64 0, .int .i64 0] 46)) (Kd.C_below hr9 ((Below.refl _ _).alloc (Nat.le_refl _) _))
    rw [hcv] at hrb
    have hbx : (wr.alloc (.cells #[.int .i64 key, .int .i64 t, .int .i64 0, .int .i64 0, .int .i64 0, .int .i64 0, .int .i64 0, .int .i64 0, .int .i64 0, .int .i64 0, .int .i64 0, .int .i64 0] 46)).heap[wr.heap.size]? = some (.cells #[.int .i64 key, .int .i64 t, .int .i64 0, .int .i64 0, .int .i64 0, .int .i64 0, .int .i64 0, .int .i64 0, .int .i64 0, .int .i64 0, .int .i64 0, .int .i64 0] 46 (0, 0)) := heap_alloc_new _ _
    have hba : Below wr.heap.size wr (wr.alloc (.cells #[.int .i64 key, .int .i64 t, .int .i64 0, .int .i64 0, .int .i64 0, .int .i64 0, .int .i64 0, .int .i64 0, .int .i64 0, .int .i64 0, .int .i64 0, .int .i64 0] 46)) := (Below.refl _ _).alloc (Nat.le_refl _) _
    obtain ⟨wa, hwa⟩ : ∃ wa, wa = (wr.alloc (.cells #[.int .i64 key, .int .i64 t, .int .i64 0, .int .i64 0, .int .i64 0, .int .i64 0, .int .i64 0, .int .i64 0, .int .i64 0, .int .i64 0, .int .i64 0, .int .i64 0] 46)) := ⟨_, rfl⟩
    cases F with
    | true =>
      simp only [if_true] at ho hSl
      have hI2 := hFI rfl
      obtain ⟨gr, c2, tl, he, hBg, _, hlc, hcm, htl', hg⟩ := row46 hRw (by omega)
      cases he
      obtain ⟨y, hy⟩ : ∃ y, rd_T46 l1 (I : Int) = y := ⟨_, rfl⟩
      have hgl : gr < wr.heap.size := (Array.getElem?_eq_some_iff.1 hg).1
      obtain ⟨a2, ha2⟩ : ∃ a2, addP y.f2 v = a2 := ⟨_, rfl⟩
      have hadd := fun w => add_calls y.f2 v w
      rw [hy, ha2] at ho hSl
      rw [ha2] at hadd
      simp only [aggV] at hadd
      have HO := Lib.hid ho
      have HBA := Lib.hid hba
      have HY := Lib.hid hy
      clear ho hba hy hbx hbs hcv hwa ha2
      go_wp2_with (first | (go_at_call 85; go_loud ((with_reducible refine hrb.mono ?_); rintro e w2 ⟨rfl, hb2⟩; have hy := HY.out; have hb2' : Below wr.heap.size wr w2 := HBA.out.trans (hb2.mono HBA.out.size); have hg2 := blk_below hg hb2'; have q2 : w2.cell? ⟨gr, I * 12 + 2, none⟩ = some (.int .i64 y.f2.f0) := cell_at hg2 I hI2 2 _ (by rw [hy]; rfl); have qf2 : w2.frozen? ⟨gr, I * 12 + 2, none⟩ = false := blk_frozen hg2 _; have q3 : w2.cell? ⟨gr, I * 12 + 3, none⟩ = some (.int .i64 y.f2.f1) := cell_at hg2 I hI2 3 _ (by rw [hy]; rfl); have qf3 : w2.frozen? ⟨gr, I * 12 + 3, none⟩ = false := blk_frozen hg2 _; have q4 : w2.cell? ⟨gr, I * 12 + 4, none⟩ = some (.int .i64 y.f2.f2) := cell_at hg2 I hI2 4 _ (by rw [hy]; rfl); have qf4 : w2.frozen? ⟨gr, I * 12 + 4, none⟩ = false := blk_frozen hg2 _; have q5 : w2.cell? ⟨gr, I * 12 + 5, none⟩ = some (.int .i64 y.f2.f3) := cell_at hg2 I hI2 5 _ (by rw [hy]; rfl); have qf5 : w2.frozen? ⟨gr, I * 12 + 5, none⟩ = false := blk_frozen hg2 _; have q6 : w2.cell? ⟨gr, I * 12 + 6, none⟩ = some (.int .i64 y.f2.f4.f0) := cell_at hg2 I hI2 6 _ (by rw [hy]; rfl); have qf6 : w2.frozen? ⟨gr, I * 12 + 6, none⟩ = false := blk_frozen hg2 _; have q7 : w2.cell? ⟨gr, I * 12 + 7, none⟩ = some (.int .i64 y.f2.f4.f1) := cell_at hg2 I hI2 7 _ (by rw [hy]; rfl); have qf7 : w2.frozen? ⟨gr, I * 12 + 7, none⟩ = false := blk_frozen hg2 _; have q8 : w2.cell? ⟨gr, I * 12 + 8, none⟩ = some (.int .i64 y.f2.f4.f2) := cell_at hg2 I hI2 8 _ (by rw [hy]; rfl); have qf8 : w2.frozen? ⟨gr, I * 12 + 8, none⟩ = false := blk_frozen hg2 _; have q9 : w2.cell? ⟨gr, I * 12 + 9, none⟩ = some (.int .i64 y.f2.f4.f3) := cell_at hg2 I hI2 9 _ (by rw [hy]; rfl); have qf9 : w2.frozen? ⟨gr, I * 12 + 9, none⟩ = false := blk_frozen hg2 _; have q10 : w2.cell? ⟨gr, I * 12 + 10, none⟩ = some (.int .i64 y.f2.f5) := cell_at hg2 I hI2 10 _ (by rw [hy]; rfl); have qf10 : w2.frozen? ⟨gr, I * 12 + 10, none⟩ = false := blk_frozen hg2 _; have q11 : w2.cell? ⟨gr, I * 12 + 11, none⟩ = some (.int .i64 y.f2.f6) := cell_at hg2 I hI2 11 _ (by rw [hy]; rfl); have qf11 : w2.frozen? ⟨gr, I * 12 + 11, none⟩ = false := blk_frozen hg2 _; clear hy)) | (go_at_call 86; go_loud ((with_reducible refine (hadd _).mono ?_); rintro e w5 ⟨rfl, hb5⟩; have hy := HY.out; have hg5 := blk_below hg2 hb5; have r2 : w5.cell? ⟨gr, I * 12 + 2, none⟩ = some (.int .i64 y.f2.f0) := cell_at hg5 I hI2 2 _ (by rw [hy]; rfl); have rf2 : w5.frozen? ⟨gr, I * 12 + 2, none⟩ = false := blk_frozen hg5 _; have r3 : w5.cell? ⟨gr, I * 12 + 3, none⟩ = some (.int .i64 y.f2.f1) := cell_at hg5 I hI2 3 _ (by rw [hy]; rfl); have rf3 : w5.frozen? ⟨gr, I * 12 + 3, none⟩ = false := blk_frozen hg5 _; have r4 : w5.cell? ⟨gr, I * 12 + 4, none⟩ = some (.int .i64 y.f2.f2) := cell_at hg5 I hI2 4 _ (by rw [hy]; rfl); have rf4 : w5.frozen? ⟨gr, I * 12 + 4, none⟩ = false := blk_frozen hg5 _; have r5 : w5.cell? ⟨gr, I * 12 + 5, none⟩ = some (.int .i64 y.f2.f3) := cell_at hg5 I hI2 5 _ (by rw [hy]; rfl); have rf5 : w5.frozen? ⟨gr, I * 12 + 5, none⟩ = false := blk_frozen hg5 _; have r6 : w5.cell? ⟨gr, I * 12 + 6, none⟩ = some (.int .i64 y.f2.f4.f0) := cell_at hg5 I hI2 6 _ (by rw [hy]; rfl); have rf6 : w5.frozen? ⟨gr, I * 12 + 6, none⟩ = false := blk_frozen hg5 _; have r7 : w5.cell? ⟨gr, I * 12 + 7, none⟩ = some (.int .i64 y.f2.f4.f1) := cell_at hg5 I hI2 7 _ (by rw [hy]; rfl); have rf7 : w5.frozen? ⟨gr, I * 12 + 7, none⟩ = false := blk_frozen hg5 _; have r8 : w5.cell? ⟨gr, I * 12 + 8, none⟩ = some (.int .i64 y.f2.f4.f2) := cell_at hg5 I hI2 8 _ (by rw [hy]; rfl); have rf8 : w5.frozen? ⟨gr, I * 12 + 8, none⟩ = false := blk_frozen hg5 _; have r9 : w5.cell? ⟨gr, I * 12 + 9, none⟩ = some (.int .i64 y.f2.f4.f3) := cell_at hg5 I hI2 9 _ (by rw [hy]; rfl); have rf9 : w5.frozen? ⟨gr, I * 12 + 9, none⟩ = false := blk_frozen hg5 _; have r10 : w5.cell? ⟨gr, I * 12 + 10, none⟩ = some (.int .i64 y.f2.f5) := cell_at hg5 I hI2 10 _ (by rw [hy]; rfl); have rf10 : w5.frozen? ⟨gr, I * 12 + 10, none⟩ = false := blk_frozen hg5 _; have r11 : w5.cell? ⟨gr, I * 12 + 11, none⟩ = some (.int .i64 y.f2.f6) := cell_at hg5 I hI2 11 _ (by rw [hy]; rfl); have rf11 : w5.frozen? ⟨gr, I * 12 + 11, none⟩ = false := blk_frozen hg5 _; clear hy)))
      go_roundg gk
      case measure => omega
      case rel =>
        have hlen : (l1.set I (⟨y.f0, y.f1, a2⟩ : S46)).length = l1.length := List.length_set
        have hR6 := row46_mk (w := putA w5 gr (I * 12) a2) (l := l1.set I ⟨y.f0, y.f1, a2⟩) (c := c9) (tl := tl) (B := w.heap.size) (ok := fun _ => True) hBg trivial (by omega) hcm (by rw [hlen]; exact htl') (putA_heap hg5 I hI2 a2 y HY.out)
        rw [hlen] at hR6
        refine ⟨i + 1, l1.set I ⟨y.f0, y.f1, a2⟩, by first | rfl | (congr 1), by omega, by omega, by omega, HO.out, hR6, ?_⟩
        exact putA_below ((hbw.trans (hb2'.mono hsz)).trans (hb5.mono (Nat.le_trans hsz hb2'.size))) hBg a2
    | false =>
      simp only [Bool.false_eq_true, if_false] at ho hSl
      obtain ⟨l2, hl2⟩ : ∃ l2, l1.take I ++ x :: l1.drop I = l2 := ⟨_, rfl⟩
      have hl2l : l2.length = l1.length + 1 := by rw [← hl2]; simp; omega
      rw [hl2] at ho hSl
      have hI2 : I < l2.length := by omega
      have hins := fun (w3 : World) (hR3 : Kd.R k46 46 w3 w.heap.size (fun _ => True) (.slice A9 l1.length c9) l1) => insert_calls w.heap.size w w3 (fun _ => True) A9 c9 l1 x
      obtain ⟨y, hy⟩ : ∃ y, rd_T46 l2 (I : Int) = y := ⟨_, rfl⟩
      obtain ⟨a2, ha2⟩ : ∃ a2, addP y.f2 v = a2 := ⟨_, rfl⟩
      have hadd := fun w => add_calls y.f2 v w
      rw [hy, ha2] at ho hSl
      rw [ha2] at hadd
      simp only [aggV] at hadd
      have hc12 : (c12 x).toArray = #[.int .i64 key, .int .i64 t, .int .i64 0, .int .i64 0, .int .i64 0, .int .i64 0, .int .i64 0, .int .i64 0, .int .i64 0, .int .i64 0, .int .i64 0, .int .i64 0] := by rw [hxx]; rfl
      have HI := Lib.hid hins
      have HR := Lib.hid hRw
      have HO := Lib.hid ho
      have HBA := Lib.hid hba
      have HBX := Lib.hid hbx
      have HBW := Lib.hid hbw
      have HY := Lib.hid hy
      have HL2 := Lib.hid hl2
      have HC := Lib.hid hc12
      clear ho hba hy hcv hwa ha2 hl2 hc12 hbx hins hRw hbw
      go_wp2_with (first | (go_at_call 85; go_loud ((with_reducible refine hrb.mono ?_); rintro e w2 ⟨rfl, hb2⟩; have hb2' : Below wr.heap.size wr w2 := HBA.out.trans (hb2.mono HBA.out.size); have hx2 := blk_below HBX.out hb2; have b0 : w2.cell? ⟨wr.heap.size, 0, none⟩ = some (.int .i64 key) := (blk_cell hx2 0).trans rfl; have b1 : w2.cell? ⟨wr.heap.size, 1, none⟩ = some (.int .i64 t) := (blk_cell hx2 1).trans rfl; have b2 : w2.cell? ⟨wr.heap.size, 2, none⟩ = some (.int .i64 0) := (blk_cell hx2 2).trans rfl; have b3 : w2.cell? ⟨wr.heap.size, 3, none⟩ = some (.int .i64 0) := (blk_cell hx2 3).trans rfl; have b4 : w2.cell? ⟨wr.heap.size, 4, none⟩ = some (.int .i64 0) := (blk_cell hx2 4).trans rfl; have b5 : w2.cell? ⟨wr.heap.size, 5, none⟩ = some (.int .i64 0) := (blk_cell hx2 5).trans rfl; have b6 : w2.cell? ⟨wr.heap.size, 6, none⟩ = some (.int .i64 0) := (blk_cell hx2 6).trans rfl; have b7 : w2.cell? ⟨wr.heap.size, 7, none⟩ = some (.int .i64 0) := (blk_cell hx2 7).trans rfl; have b8 : w2.cell? ⟨wr.heap.size, 8, none⟩ = some (.int .i64 0) := (blk_cell hx2 8).trans rfl; have b9 : w2.cell? ⟨wr.heap.size, 9, none⟩ = some (.int .i64 0) := (blk_cell hx2 9).trans rfl; have b10 : w2.cell? ⟨wr.heap.size, 10, none⟩ = some (.int .i64 0) := (blk_cell hx2 10).trans rfl; have b11 : w2.cell? ⟨wr.heap.size, 11, none⟩ = some (.int .i64 0) := (blk_cell hx2 11).trans rfl)) | (go_at_call 71; go_loud ((with_reducible refine (insert_calls w.heap.size w _ (fun _ => True) A9 c9 l1 x w2.heap.size I hI (by omega) ?iR ?iX ?iN ?iB ?iS (fun _ _ => trivial)).mono ?_); (case iR => exact Kd.R_below HR.out (hb2'.trans ((Below.refl _ _).alloc hb2'.size _))); (case iX => rw [HC.out]; exact heap_alloc_new _ _); (case iN => intro k hk; obtain ⟨cs', hcs'⟩ := blk_own HR.out hk; have hk2 := (Array.getElem?_eq_some_iff.1 hcs').1; have hk3 := hb2'.size; omega); (case iB => exact (HBW.out.trans (hb2'.mono hsz)).trans ((Below.refl _ _).alloc (Nat.le_trans hsz hb2'.size) _)); (case iS => exact Nat.le_trans hsz (Nat.le_trans hb2'.size ((Below.refl _ _).alloc (Nat.le_refl _) _).size)); rintro e w4 ⟨v4, rfl, hR4, hb4⟩; rw [HL2.out] at hR4; obtain ⟨gr, c2, tl, rfl, hBg, _, hlc, hcm, htl', hg4⟩ := row46 hR4 (by omega); have hy := HY.out; have q2 : w4.cell? ⟨gr, I * 12 + 2, none⟩ = some (.int .i64 y.f2.f0) := cell_at hg4 I hI2 2 _ (by rw [hy]; rfl); have qf2 : w4.frozen? ⟨gr, I * 12 + 2, none⟩ = false := blk_frozen hg4 _; have q3 : w4.cell? ⟨gr, I * 12 + 3, none⟩ = some (.int .i64 y.f2.f1) := cell_at hg4 I hI2 3 _ (by rw [hy]; rfl); have qf3 : w4.frozen? ⟨gr, I * 12 + 3, none⟩ = false := blk_frozen hg4 _; have q4 : w4.cell? ⟨gr, I * 12 + 4, none⟩ = some (.int .i64 y.f2.f2) := cell_at hg4 I hI2 4 _ (by rw [hy]; rfl); have qf4 : w4.frozen? ⟨gr, I * 12 + 4, none⟩ = false := blk_frozen hg4 _; have q5 : w4.cell? ⟨gr, I * 12 + 5, none⟩ = some (.int .i64 y.f2.f3) := cell_at hg4 I hI2 5 _ (by rw [hy]; rfl); have qf5 : w4.frozen? ⟨gr, I * 12 + 5, none⟩ = false := blk_frozen hg4 _; have q6 : w4.cell? ⟨gr, I * 12 + 6, none⟩ = some (.int .i64 y.f2.f4.f0) := cell_at hg4 I hI2 6 _ (by rw [hy]; rfl); have qf6 : w4.frozen? ⟨gr, I * 12 + 6, none⟩ = false := blk_frozen hg4 _; have q7 : w4.cell? ⟨gr, I * 12 + 7, none⟩ = some (.int .i64 y.f2.f4.f1) := cell_at hg4 I hI2 7 _ (by rw [hy]; rfl); have qf7 : w4.frozen? ⟨gr, I * 12 + 7, none⟩ = false := blk_frozen hg4 _; have q8 : w4.cell? ⟨gr, I * 12 + 8, none⟩ = some (.int .i64 y.f2.f4.f2) := cell_at hg4 I hI2 8 _ (by rw [hy]; rfl); have qf8 : w4.frozen? ⟨gr, I * 12 + 8, none⟩ = false := blk_frozen hg4 _; have q9 : w4.cell? ⟨gr, I * 12 + 9, none⟩ = some (.int .i64 y.f2.f4.f3) := cell_at hg4 I hI2 9 _ (by rw [hy]; rfl); have qf9 : w4.frozen? ⟨gr, I * 12 + 9, none⟩ = false := blk_frozen hg4 _; have q10 : w4.cell? ⟨gr, I * 12 + 10, none⟩ = some (.int .i64 y.f2.f5) := cell_at hg4 I hI2 10 _ (by rw [hy]; rfl); have qf10 : w4.frozen? ⟨gr, I * 12 + 10, none⟩ = false := blk_frozen hg4 _; have q11 : w4.cell? ⟨gr, I * 12 + 11, none⟩ = some (.int .i64 y.f2.f6) := cell_at hg4 I hI2 11 _ (by rw [hy]; rfl); have qf11 : w4.frozen? ⟨gr, I * 12 + 11, none⟩ = false := blk_frozen hg4 _; have HR4 := Lib.hid hR4; have HB4 := Lib.hid hb4; clear hy hR4 hb4)) | (go_at_call 86; go_loud ((with_reducible refine (hadd _).mono ?_); rintro e w5 ⟨rfl, hb5⟩; have hy := HY.out; have hg5 := blk_below hg4 hb5; have r2 : w5.cell? ⟨gr, I * 12 + 2, none⟩ = some (.int .i64 y.f2.f0) := cell_at hg5 I hI2 2 _ (by rw [hy]; rfl); have rf2 : w5.frozen? ⟨gr, I * 12 + 2, none⟩ = false := blk_frozen hg5 _; have r3 : w5.cell? ⟨gr, I * 12 + 3, none⟩ = some (.int .i64 y.f2.f1) := cell_at hg5 I hI2 3 _ (by rw [hy]; rfl); have rf3 : w5.frozen? ⟨gr, I * 12 + 3, none⟩ = false := blk_frozen hg5 _; have r4 : w5.cell? ⟨gr, I * 12 + 4, none⟩ = some (.int .i64 y.f2.f2) := cell_at hg5 I hI2 4 _ (by rw [hy]; rfl); have rf4 : w5.frozen? ⟨gr, I * 12 + 4, none⟩ = false := blk_frozen hg5 _; have r5 : w5.cell? ⟨gr, I * 12 + 5, none⟩ = some (.int .i64 y.f2.f3) := cell_at hg5 I hI2 5 _ (by rw [hy]; rfl); have rf5 : w5.frozen? ⟨gr, I * 12 + 5, none⟩ = false := blk_frozen hg5 _; have r6 : w5.cell? ⟨gr, I * 12 + 6, none⟩ = some (.int .i64 y.f2.f4.f0) := cell_at hg5 I hI2 6 _ (by rw [hy]; rfl); have rf6 : w5.frozen? ⟨gr, I * 12 + 6, none⟩ = false := blk_frozen hg5 _; have r7 : w5.cell? ⟨gr, I * 12 + 7, none⟩ = some (.int .i64 y.f2.f4.f1) := cell_at hg5 I hI2 7 _ (by rw [hy]; rfl); have rf7 : w5.frozen? ⟨gr, I * 12 + 7, none⟩ = false := blk_frozen hg5 _; have r8 : w5.cell? ⟨gr, I * 12 + 8, none⟩ = some (.int .i64 y.f2.f4.f2) := cell_at hg5 I hI2 8 _ (by rw [hy]; rfl); have rf8 : w5.frozen? ⟨gr, I * 12 + 8, none⟩ = false := blk_frozen hg5 _; have r9 : w5.cell? ⟨gr, I * 12 + 9, none⟩ = some (.int .i64 y.f2.f4.f3) := cell_at hg5 I hI2 9 _ (by rw [hy]; rfl); have rf9 : w5.frozen? ⟨gr, I * 12 + 9, none⟩ = false := blk_frozen hg5 _; have r10 : w5.cell? ⟨gr, I * 12 + 10, none⟩ = some (.int .i64 y.f2.f5) := cell_at hg5 I hI2 10 _ (by rw [hy]; rfl); have rf10 : w5.frozen? ⟨gr, I * 12 + 10, none⟩ = false := blk_frozen hg5 _; have r11 : w5.cell? ⟨gr, I * 12 + 11, none⟩ = some (.int .i64 y.f2.f6) := cell_at hg5 I hI2 11 _ (by rw [hy]; rfl); have rf11 : w5.frozen? ⟨gr, I * 12 + 11, none⟩ = false := blk_frozen hg5 _; clear hy)))
      go_roundg gk
      case measure => omega
      case rel =>
        have hlen : (l2.set I (⟨y.f0, y.f1, a2⟩ : S46)).length = l2.length := List.length_set
        have hR6 := row46_mk (w := putA w5 gr (I * 12) a2) (l := l2.set I ⟨y.f0, y.f1, a2⟩) (c := c2) (tl := tl) (B := w.heap.size) (ok := fun _ => True) hBg trivial (by omega) hcm (by rw [hlen]; exact htl') (putA_heap hg5 I hI2 a2 y HY.out)
        rw [hlen, hl2l] at hR6
        refine ⟨i + 1, l2.set I ⟨y.f0, y.f1, a2⟩, by first | rfl | (congr 1), by omega, by omega, by omega, HO.out, hR6, ?_⟩
        exact putA_below (HB4.out.trans (hb5.mono HB4.out.size)) hBg a2
end
section
open Go.RowKit Go.Proofs.YtgipepjpkmlmaaaW.PrintWords Go.Proofs.YtgipepjpkmlmaaaW.PrintLast Go.Proofs.YtgipepjpkmlmaaaW.PrintMore

/-- What is over: its box, with its row. -/
structure Over (w : World) (B go : Nat) (lo : List S46) : Prop where
  lt : B ≤ go
  row : ∃ vo, w.heap[go]? = some (.cells #[vo] 26 (0, 0)) ∧ Kd.R k46 46 w B (fun k => k ≠ go) vo lo
theorem Over.below {w w' : World} {B go : Nat} {lo : List S46} (h : Over w B go lo) (hb : Below w.heap.size w w') : Over w' B go lo := by
  obtain ⟨h1, vo, h2, h3⟩ := h
  exact ⟨h1, vo, blk_below h2 hb, Kd.R_below h3 hb⟩
/-- A question that says no has written nothing old. -/
def NoB (b : Bool) (w w' : World) : Prop := b = false → Below w.heap.size w w'
set_option maxHeartbeats 8000000 in
set_option maxRecDepth 100000 in
theorem feed2_calls (g : S23) (mark : Int) (c : S46) (gg gs go B : Nat) (lo : List S46) (w : World) (h : Sees w gg gs g mark) (hgg : gg < B) (hgs : gs < B) (ho : Over w B go lo) (hlo : lo.length ≤ 1000000) :
    Calls Try.prog 59 #[cellV c, .pointer (some ⟨gg, 0, none⟩), .pointer (some ⟨gs, 0, none⟩), .pointer (some ⟨go, 0, none⟩)] w fun e w' => e = .returned (.bool (closedP g c.f1 mark)) ∧ Over w' B go (lo ++ if closedP g c.f1 mark = true then [c] else []) ∧ Below B w w' ∧ NoB (closedP g c.f1 mark) w w' := by
  obtain ⟨h1, cs, h2, h3⟩ := h
  obtain ⟨hBg, vo, hbo, hRo⟩ := ho
  obtain ⟨Ao, co, rfl, hco, _⟩ := Kd.R_reads hRo
  have hgl : go < w.heap.size := (Array.getElem?_eq_some_iff.1 hbo).1
  have hc := fun w => closed_calls g c.f1 mark w
  obtain ⟨W1, hW1⟩ : ∃ W1, W1 = w.alloc (.cells #[.int .i64 c.f0, .int .i64 c.f1, .int .i64 c.f2.f0, .int .i64 c.f2.f1, .int .i64 c.f2.f2, .int .i64 c.f2.f3, .int .i64 c.f2.f4.f0, .int .i64 c.f2.f4.f1, .int .i64 c.f2.f4.f2, .int .i64 c.f2.f4.f3, .int .i64 c.f2.f5, .int .i64 c.f2.f6] 46) := ⟨_, rfl⟩
  have hbx : W1.heap[w.heap.size]? = some (.cells #[.int .i64 c.f0, .int .i64 c.f1, .int .i64 c.f2.f0, .int .i64 c.f2.f1, .int .i64 c.f2.f2, .int .i64 c.f2.f3, .int .i64 c.f2.f4.f0, .int .i64 c.f2.f4.f1, .int .i64 c.f2.f4.f2, .int .i64 c.f2.f4.f3, .int .i64 c.f2.f5, .int .i64 c.f2.f6] 46 (0, 0)) := by rw [hW1]; exact heap_alloc_new _ _
  have hb1 : Below w.heap.size w W1 := by rw [hW1]; exact (Below.refl _ _).alloc (Nat.le_refl _) _
  have h1' := blk_below h1 hb1
  have h2' := blk_below h2 hb1
  have q0 : W1.cell? ⟨gg, 0, none⟩ = some (.int .i64 g.f0) := (blk_cell h1' 0).trans rfl
  have q1 : W1.cell? ⟨gg, 1, none⟩ = some (.int .i64 g.f1) := (blk_cell h1' 1).trans rfl
  have q2 : W1.cell? ⟨gg, 2, none⟩ = some (.int .i64 g.f2) := (blk_cell h1' 2).trans rfl
  have s0 : W1.cell? ⟨gs, 0, none⟩ = some (.int .i64 mark) := (blk_cell h2' 0).trans h3
  rw [hW1] at q0 q1 q2 s0
  have hu := Try.underlying23
  have HBX := Lib.hid hbx
  have HB1 := Lib.hid hb1
  have HBO := Lib.hid hbo
  have HRO := Lib.hid hRo
  have HW1 := Lib.hid hW1
  clear h1 h2 h1' h2' hbx hb1 hbo hRo hW1 h3
  have hb : closedP g c.f1 mark = true ∨ closedP g c.f1 mark = false := by cases closedP g c.f1 mark <;> simp
  revert hb hc
  generalize closedP g c.f1 mark = b
  intro hc hb
  rcases hb with rfl | rfl
  · go_enter Try.func59, Try.ntmps59
    go_wp2_with (first | (go_at_call 46; go_loud ((with_reducible refine (hc _).mono ?_); rintro e w2 ⟨rfl, hb2⟩; rw [← HW1.out] at hb2; have hx2 := blk_below HBX.out hb2; have hb2' : Below w.heap.size w w2 := HB1.out.trans (hb2.mono HB1.out.size); have ho2 : w2.cell? ⟨go, 0, none⟩ = some (.slice Ao lo.length co) := (blk_cell (blk_below HBO.out hb2') 0).trans rfl; have b0 : w2.cell? ⟨w.heap.size, 0, none⟩ = some (.int .i64 c.f0) := (blk_cell hx2 0).trans rfl; have b1 : w2.cell? ⟨w.heap.size, 1, none⟩ = some (.int .i64 c.f1) := (blk_cell hx2 1).trans rfl; have b2 : w2.cell? ⟨w.heap.size, 2, none⟩ = some (.int .i64 c.f2.f0) := (blk_cell hx2 2).trans rfl; have b3 : w2.cell? ⟨w.heap.size, 3, none⟩ = some (.int .i64 c.f2.f1) := (blk_cell hx2 3).trans rfl; have b4 : w2.cell? ⟨w.heap.size, 4, none⟩ = some (.int .i64 c.f2.f2) := (blk_cell hx2 4).trans rfl; have b5 : w2.cell? ⟨w.heap.size, 5, none⟩ = some (.int .i64 c.f2.f3) := (blk_cell hx2 5).trans rfl; have b6 : w2.cell? ⟨w.heap.size, 6, none⟩ = some (.int .i64 c.f2.f4.f0) := (blk_cell hx2 6).trans rfl; have b7 : w2.cell? ⟨w.heap.size, 7, none⟩ = some (.int .i64 c.f2.f4.f1) := (blk_cell hx2 7).trans rfl; have b8 : w2.cell? ⟨w.heap.size, 8, none⟩ = some (.int .i64 c.f2.f4.f2) := (blk_cell hx2 8).trans rfl; have b9 : w2.cell? ⟨w.heap.size, 9, none⟩ = some (.int .i64 c.f2.f4.f3) := (blk_cell hx2 9).trans rfl; have b10 : w2.cell? ⟨w.heap.size, 10, none⟩ = some (.int .i64 c.f2.f5) := (blk_cell hx2 10).trans rfl; have b11 : w2.cell? ⟨w.heap.size, 11, none⟩ = some (.int .i64 c.f2.f6) := (blk_cell hx2 11).trans rfl; have hsz2 := hb2'.size; have hb3 : Below w2.heap.size w2 (w2.alloc (.cells #[.int .i64 c.f0, .int .i64 c.f1, .int .i64 c.f2.f0, .int .i64 c.f2.f1, .int .i64 c.f2.f2, .int .i64 c.f2.f3, .int .i64 c.f2.f4.f0, .int .i64 c.f2.f4.f1, .int .i64 c.f2.f4.f2, .int .i64 c.f2.f4.f3, .int .i64 c.f2.f5, .int .i64 c.f2.f6] 46)) := (Below.refl _ _).alloc (Nat.le_refl _) _; have hR3 : Kd.R k46 46 (w2.alloc (.cells #[.int .i64 c.f0, .int .i64 c.f1, .int .i64 c.f2.f0, .int .i64 c.f2.f1, .int .i64 c.f2.f2, .int .i64 c.f2.f3, .int .i64 c.f2.f4.f0, .int .i64 c.f2.f4.f1, .int .i64 c.f2.f4.f2, .int .i64 c.f2.f4.f3, .int .i64 c.f2.f5, .int .i64 c.f2.f6] 46)) B (fun k => k ≠ go) (.slice Ao lo.length co) lo := Kd.R_below HRO.out (hb2'.trans (hb3.mono hsz2)); have hC3 : k46.C (w2.alloc (.cells #[.int .i64 c.f0, .int .i64 c.f1, .int .i64 c.f2.f0, .int .i64 c.f2.f1, .int .i64 c.f2.f2, .int .i64 c.f2.f3, .int .i64 c.f2.f4.f0, .int .i64 c.f2.f4.f1, .int .i64 c.f2.f4.f2, .int .i64 c.f2.f4.f3, .int .i64 c.f2.f5, .int .i64 c.f2.f6] 46)) (some ⟨w2.heap.size, 0, none⟩) 1 [c] := one_C (heap_alloc_new _ _); have hs3 := hb3.size; have hB3 : Below B w (w2.alloc (.cells #[.int .i64 c.f0, .int .i64 c.f1, .int .i64 c.f2.f0, .int .i64 c.f2.f1, .int .i64 c.f2.f2, .int .i64 c.f2.f3, .int .i64 c.f2.f4.f0, .int .i64 c.f2.f4.f1, .int .i64 c.f2.f4.f2, .int .i64 c.f2.f4.f3, .int .i64 c.f2.f5, .int .i64 c.f2.f6] 46)) := (hb2'.mono (by omega)).trans (hb3.mono (by omega)); have hok3 : ∀ k, (World.heap (w2.alloc (.cells #[.int .i64 c.f0, .int .i64 c.f1, .int .i64 c.f2.f0, .int .i64 c.f2.f1, .int .i64 c.f2.f2, .int .i64 c.f2.f3, .int .i64 c.f2.f4.f0, .int .i64 c.f2.f4.f1, .int .i64 c.f2.f4.f2, .int .i64 c.f2.f4.f3, .int .i64 c.f2.f5, .int .i64 c.f2.f6] 46))).size ≤ k → k ≠ go := (fun k hk => (by omega)); have hbo3 : (World.heap (w2.alloc (.cells #[.int .i64 c.f0, .int .i64 c.f1, .int .i64 c.f2.f0, .int .i64 c.f2.f1, .int .i64 c.f2.f2, .int .i64 c.f2.f3, .int .i64 c.f2.f4.f0, .int .i64 c.f2.f4.f1, .int .i64 c.f2.f4.f2, .int .i64 c.f2.f4.f3, .int .i64 c.f2.f5, .int .i64 c.f2.f6] 46)))[go]? = some (.cells #[.slice Ao lo.length co] 26 (0, 0)) := blk_below HBO.out (hb2'.trans (hb3.mono hsz2)); have HBO3 := Lib.hid hbo3; clear hbo3; have HR3 := Lib.hid hR3; have HB3 := Lib.hid hB3; have HOK3 := Lib.hid hok3; have HS3 := Lib.hid (show B ≤ (World.heap (w2.alloc (.cells #[.int .i64 c.f0, .int .i64 c.f1, .int .i64 c.f2.f0, .int .i64 c.f2.f1, .int .i64 c.f2.f2, .int .i64 c.f2.f3, .int .i64 c.f2.f4.f0, .int .i64 c.f2.f4.f1, .int .i64 c.f2.f4.f2, .int .i64 c.f2.f4.f3, .int .i64 c.f2.f5, .int .i64 c.f2.f6] 46))).size by omega); clear hR3 hB3 hok3 hs3 hsz2)) | ((with_reducible refine gate_builtin (b := .append) (xs := #[.tmp 13, .tmp 15]) rfl ?_); (try (refine gate_guard (by rfl) ?_; dsimp only)); at_builtin; refine Kd.R_append_rows k46 (w0 := w) B rfl (.tmp 13) (.tmp 15) 26 46 (.agg #[(.int .i64 0), (.int .i64 0), (.int .i64 0), (.int .i64 0), (.int .i64 0), (.int .i64 0), (.int .i64 0), (.int .i64 0), (.int .i64 0), (.int .i64 0), (.int .i64 0), (.int .i64 0)]) 96 rfl Try.underlying26 info46 rfl (by decide) (by omega) (.slice Ao lo.length co) lo [c] _ _ _ (fun k => k ≠ go) (fun _ => False) rfl rfl HR3.out hC3 (fun _ _ h => by obtain rfl := k46_open h; exact k46_mkM _ _ _ _) (fun _ h => h.elim) HOK3.out HB3.out HS3.out ?aL ?_; (case aL => first | omega | (simp; omega)); intro v4 w4 hR4 hb4 hg4 hat4; clear hat4; have hbo4 := (hg4.block go (lt_of_block HBO3.out) (fun e => (HR3.out.1 go (by first | exact e | exact e.symm)) rfl)).trans HBO3.out; obtain ⟨A4, c4, rfl, hc4, _⟩ := Kd.R_reads hR4; have o4 : w4.cell? ⟨go, 0, none⟩ = some (.slice Ao lo.length co) := (blk_cell hbo4 0).trans rfl; have f4 : w4.frozen? ⟨go, 0, none⟩ = false := blk_frozen hbo4 0; have HR4 := Lib.hid hR4; have HB4 := Lib.hid hb4; have HBO4 := Lib.hid hbo4; clear hR4 hb4 hbo4 hg4))
    go_ret
    refine ⟨rfl, ⟨hBg, _, one_setCell HBO4.out, ?_⟩, HB4.out.setCell hBg _, fun h => absurd h (by decide)⟩
    have hR5 := HR4.out
    rw [show (lo ++ [c]).length = lo.length + 1 by simp] at hR5
    exact Kd.R_far (p := ⟨go, 0, none⟩) hR5 (fun k hk => hk) _
  · go_enter Try.func59, Try.ntmps59
    go_wp2_with (first | (go_at_call 46; go_loud ((with_reducible refine (hc _).mono ?_); rintro e w2 ⟨rfl, hb2⟩; rw [← HW1.out] at hb2)))
    go_ret
    have hb2' : Below w.heap.size w w2 := HB1.out.trans (hb2.mono HB1.out.size)
    refine ⟨rfl, ?_, hb2'.mono (by omega), fun _ => hb2'⟩
    exact Over.below ⟨hBg, _, HBO.out, HRO.out⟩ hb2'
end
section
open Go.RowKit Go.Proofs.YtgipepjpkmlmaaaW.PrintWords Go.Proofs.YtgipepjpkmlmaaaW.PrintLast Go.Proofs.YtgipepjpkmlmaaaW.PrintMore

/-- The first window of which a question holds, from a place on. -/
def clC (p : S46 → Bool) (l : List S46) : Nat → Nat → Int
  | 0, _ => -1
  | k + 1, i => if p (rd_T46 l (i : Int)) = true then (i : Int) else clC p l k (i + 1)
def ovC (l : List S46) (z : Int) : List S46 := if z < 0 then [] else [rd_T46 l z]
theorem rd46 (l : List S46) (i : Nat) (h : i < l.length) : rd_T46 l (i : Int) = l[i] := by simp [rd_T46, List.getD, List.getElem?_eq_getElem h]
theorem clC_spec (p : S46 → Bool) (l : List S46) : ∀ k i, i + k = l.length → (l.take i).filter (fun c => !p c) = l.take i →
    (clC p l k i = -1 ∧ l.filter (fun c => !p c) = l) ∨ ∃ m : Nat, clC p l k i = (m : Int) ∧ m < l.length ∧ (l.take (m + 1)).filter (fun c => !p c) = l.take m ∧ p (rd_T46 l (m : Int)) = true := by
  intro k
  induction k with
  | zero =>
    intro i h hk
    rw [List.take_of_length_le (by omega)] at hk
    exact .inl ⟨rfl, hk⟩
  | succ k ih =>
    intro i h hk
    have hlt : i < l.length := by omega
    have e : clC p l (k + 1) i = if p (rd_T46 l (i : Int)) = true then (i : Int) else clC p l k (i + 1) := rfl
    have et : l.take (i + 1) = l.take i ++ [l[i]] := by rw [List.take_add_one, List.getElem?_eq_getElem hlt]; rfl
    rw [e, rd46 l i hlt]
    by_cases c : p l[i] = true
    · rw [if_pos c]
      refine .inr ⟨i, rfl, hlt, ?_, by rw [rd46 l i hlt]; exact c⟩
      rw [et, List.filter_append, hk]
      simp [c]
    · rw [if_neg c]
      refine ih (i + 1) (by omega) ?_
      rw [et, List.filter_append, hk]
      simp [c]
theorem Over.len {w : World} {B go : Nat} {lo : List S46} (h : Over w B go lo) : lo.length ≤ lo.length := Nat.le_refl _
set_option maxHeartbeats 8000000 in
set_option maxRecDepth 100000 in
theorem idx2_calls (g : S23) (mark : Int) (gg gs go B gr : Nat) (A : Option Addr) (c : Nat) (l lo : List S46) (tl : List Value) (w : World) (hs : Sees w gg gs g mark) (hgg : gg < B) (hgs : gs < B) (hov : Over w B go lo) (hlo : lo.length ≤ 100000)
    (hrow : 0 < l.length → A = some ⟨gr, 0, none⟩ ∧ gr < B ∧ w.heap[gr]? = some (.cells (flat l ++ tl).toArray 46 (0, 0))) (hc : l.length ≤ c) (hl : l.length ≤ 1000000) :
    Calls Try.prog 87 #[.slice A l.length c, .func (.func 59) #[] #[.pointer (some ⟨gg, 0, none⟩), .pointer (some ⟨gs, 0, none⟩), .pointer (some ⟨go, 0, none⟩)]] w fun e w' => e = .returned (.int .i64 (clC (fun c => closedP g c.f1 mark) l l.length 0)) ∧ Over w' B go (lo ++ ovC l (clC (fun c => closedP g c.f1 mark) l l.length 0)) ∧ Below B w w' := by
  obtain ⟨Z, hZ⟩ : ∃ Z, clC (fun c => closedP g c.f1 mark) l l.length 0 = Z := ⟨_, rfl⟩
  rw [hZ]
  obtain ⟨LO, hLO⟩ : ∃ LO, lo ++ ovC l Z = LO := ⟨_, rfl⟩
  rw [hLO]
  have HZ := Lib.hid hZ
  have HLO := Lib.hid hLO
  have HOV := Lib.hid hov
  have HROW := Lib.hid hrow
  clear hZ hLO hov hrow
  go_enter Try.func87, Try.ntmps87
  go_wp2
  go_loopg [8] l.length (fun kq v8 wr => ∃ (i : Nat), v8 = .int .i64 (i : Int) ∧ i ≤ l.length ∧ l.length - i ≤ kq ∧ clC (fun c => closedP g c.f1 mark) l (l.length - i) i = Z ∧ Over wr B go lo ∧ Below B w wr)
  case atStart => exact ⟨0, rfl, Nat.zero_le _, by omega, HZ.out, HOV.out, Below.refl _ _⟩
  case round =>
    obtain ⟨i, rfl, hil, hik, ho, hov, hbw⟩ := hrel
    clear HZ
    by_cases hlt : i < l.length
    rotate_left
    · have d1 : decide ((i : Int) < (l.length : Int)) = false := decide_eq_false (by omega)
      rw [show l.length - i = 0 by omega] at ho
      change (-1 : Int) = Z at ho
      have HO := Lib.hid ho
      have HV := Lib.hid hov
      clear ho hov
      go_wp2
      go_ret
      refine ⟨by rw [← HO.out]; rfl, ?_, hbw⟩
      rw [← HLO.out, ← HO.out]
      have := HV.out
      simpa [ovC] using this
    have d1 : decide ((i : Int) < (l.length : Int)) = true := decide_eq_true (by omega)
    obtain ⟨rfl, hgr, hg⟩ := HROW.out (by omega)
    have hgw := (hbw.block gr hgr).trans hg
    have hsw := hs.belowB hbw hgg hgs
    obtain ⟨x, hx⟩ : ∃ x, rd_T46 l (i : Int) = x := ⟨_, rfl⟩
    have q0 : wr.cell? ⟨gr, i * 12, none⟩ = some (.int .i64 x.f0) := cell_at hgw i hlt 0 _ (by rw [hx]; rfl)
    have q1 : wr.cell? ⟨gr, i * 12 + 1, none⟩ = some (.int .i64 x.f1) := cell_at hgw i hlt 1 _ (by rw [hx]; rfl)
    have q2 : wr.cell? ⟨gr, i * 12 + 2, none⟩ = some (.int .i64 x.f2.f0) := cell_at hgw i hlt 2 _ (by rw [hx]; rfl)
    have q3 : wr.cell? ⟨gr, i * 12 + 3, none⟩ = some (.int .i64 x.f2.f1) := cell_at hgw i hlt 3 _ (by rw [hx]; rfl)
    have q4 : wr.cell? ⟨gr, i * 12 + 4, none⟩ = some (.int .i64 x.f2.f2) := cell_at hgw i hlt 4 _ (by rw [hx]; rfl)
    have q5 : wr.cell? ⟨gr, i * 12 + 5, none⟩ = some (.int .i64 x.f2.f3) := cell_at hgw i hlt 5 _ (by rw [hx]; rfl)
    have q6 : wr.cell? ⟨gr, i * 12 + 6, none⟩ = some (.int .i64 x.f2.f4.f0) := cell_at hgw i hlt 6 _ (by rw [hx]; rfl)
    have q7 : wr.cell? ⟨gr, i * 12 + 7, none⟩ = some (.int .i64 x.f2.f4.f1) := cell_at hgw i hlt 7 _ (by rw [hx]; rfl)
    have q8 : wr.cell? ⟨gr, i * 12 + 8, none⟩ = some (.int .i64 x.f2.f4.f2) := cell_at hgw i hlt 8 _ (by rw [hx]; rfl)
    have q9 : wr.cell? ⟨gr, i * 12 + 9, none⟩ = some (.int .i64 x.f2.f4.f3) := cell_at hgw i hlt 9 _ (by rw [hx]; rfl)
    have q10 : wr.cell? ⟨gr, i * 12 + 10, none⟩ = some (.int .i64 x.f2.f5) := cell_at hgw i hlt 10 _ (by rw [hx]; rfl)
    have q11 : wr.cell? ⟨gr, i * 12 + 11, none⟩ = some (.int .i64 x.f2.f6) := cell_at hgw i hlt 11 _ (by rw [hx]; rfl)
    rw [show l.length - i = (l.length - (i + 1)) + 1 by omega] at ho
    simp only [clC] at ho
    rw [hx] at ho
    cases gk with
    | zero => omega
    | succ gk =>
    have hcall := feed2_calls g mark x gg gs go B lo wr hsw hgg hgs hov (by omega)
    have HX := Lib.hid hx
    clear hx hg hgw
    cases hn : closedP g x.f1 mark with
    | true =>
      rw [hn, if_pos rfl] at hcall
      rw [if_pos (show (fun c : S46 => closedP g c.f1 mark) x = true from hn)] at ho
      have HO := Lib.hid ho
      clear ho hn hov
      go_wp2_with (first | (go_at_call 59; go_loud ((with_reducible refine hcall.mono ?_); rintro e w2 ⟨rfl, hv2, hb2, _⟩)))
      go_ret
      refine ⟨by rw [← HO.out]; rfl, ?_, hbw.trans hb2⟩
      rw [← HLO.out, ← HO.out, ovC, if_neg (by omega), HX.out]
      exact hv2
    | false =>
      rw [hn, if_neg (by decide), List.append_nil] at hcall
      rw [if_neg (show ¬ (fun c : S46 => closedP g c.f1 mark) x = true by show ¬ closedP g x.f1 mark = true; rw [hn]; decide)] at ho
      have HO := Lib.hid ho
      clear ho hn hov
      go_wp2_with (first | (go_at_call 59; go_loud ((with_reducible refine hcall.mono ?_); rintro e w2 ⟨rfl, hv2, hb2, _⟩; have HV2 := Lib.hid hv2; clear hv2)))
      go_roundg gk
      case measure => omega
      case rel => exact ⟨i + 1, by congr 1, by omega, by omega, HO.out, HV2.out, hbw.trans hb2⟩
end
end Go.Proofs.Ytgipepjpkmlmaaa.P
