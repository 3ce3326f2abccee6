/- YtakfdmhoooeejaaDoorMyWireD, as far as WireEnds needs it (prune.py). -/
import Derived.Test.YtakfdmhoooeejaaDoorWireEndsMyWireC
namespace Go.Proofs.YtakfdmhoooeejaaDoor.PP
open Go.RowKit Go.Proofs.YtakfdmhoooeejaaDoorW.PrintWords Go.Proofs.YtakfdmhoooeejaaDoorW.PrintLast Go.Proofs.YtakfdmhoooeejaaDoorW.PrintMore
open Go.Proofs.YtakfdmhoooeejaaDoor.My
set_option linter.unusedVariables false
set_option linter.unusedSimpArgs false
/-- A row of events; what it and its texts lie in is new, from base on. -/
abbrev ERow (w : World) (base : Nat) (v : Value) (l : List Evt) : Prop := Kd.N k39 39 w base (fun k => base ≤ k) v l
theorem R_ge {w : World} {base : Nat} {v : Value} {l : List ByteArray} (h : SRow w base v l) : Kd.R Kd.string 9 w base (fun k => base ≤ k) v l := Kd.R_mono (Kd.R_bound h) (fun k hk => hk.2.1)
theorem FK_evt {w : World} {base : Nat} {k : Int} {vt vl : Value} {ts ls : List ByteArray} (h1 : SRow w base vt ts) (h2 : SRow w base vl ls) : Kd.FK k39 w (fun k => base ≤ k) (evt k ts ls) [.int .i64 k, vt, vl] :=
  Kd.FK_of_M (k39_mkM w base (fun k => base ≤ k) (evt k ts ls) (R_ge h1) (R_ge h2))
/-- One element, just laid. -/
theorem N_new1 {α : Type} {d : Kd α} {e base : Nat} {W : World} {x : α} {cs : List Value} (hb : base ≤ W.heap.size) (hK : Kd.FK d W (fun k => base ≤ k) x cs) (hs : 0 < d.sz) : Kd.N d e (W.alloc (.cells cs.toArray e)) base (fun k => base ≤ k) (.slice (some ⟨W.heap.size, 0, none⟩) 1 1) [x] := by
  have hl : cs.length = d.sz := d.K_len (Kd.FK_now hK)
  have ho := World.ownsRow_lit (base := base) (e := e) (size := d.sz) W cs.toArray 1 hb (by simp [maxLen]) (by simp [hl])
  refine ⟨fun k hk => ?_, [cs], rfl, ⟨fun k hk => ?_, cs, ?_, ?_⟩, fun j y c hy hc => ?_⟩
  · simp only [Value.ownBlock] at hk
    injection hk with hk
    show base ≤ k
    omega
  · exact hk.symm
  · simpa [show (Kd.raw d.sz).sz = d.sz from rfl] using ho
  · exact Reps.snoc (Reps.none _ _) ⟨rfl, hl, d.K_one (Kd.FK_now hK)⟩ hl
  · rcases j with _ | j
    · simp only [List.getElem?_cons_zero, Option.some.injEq] at hy hc
      rw [← hy, ← hc]
      refine Kd.FK_mono (Kd.FK_step (Kd.FK_bound hK) (fun k hk hlt => Below.heap_alloc W _ k hlt)) (fun k hk => ⟨hk.1, fun he => ?_⟩)
      have := hk.2
      simp only [Value.ownBlock] at he
      injection he with he
      omega
    · simp at hy
set_option maxHeartbeats 2000000 in
set_option maxRecDepth 100000 in
theorem one_ok (k : Int) (A1 A2 : Option Addr) (n1 n2 c1 c2 : Nat) (ts ls : List ByteArray) (base : Nat) (w : World) (h1 : SRow w base (.slice A1 n1 c1) ts) (h2 : SRow w base (.slice A2 n2 c2) ls) (hb : base ≤ w.heap.size) :
    Calls Tryd.prog 32 #[.int .i64 k, .agg #[.slice A1 n1 c1, .slice A2 n2 c2]] w fun e w' => ∃ (A : Option Addr) (c : Nat), e = .returned (.slice A 1 c) ∧ ERow w' base (.slice A 1 c) [evt k ts ls] ∧ Below w.heap.size w w' := by
  have H1 := Aside0.mk h1
  have H2 := Aside0.mk h2
  have HB := Aside0.mk hb
  clear h1 h2 hb
  go_enter Tryd.func32, Tryd.ntmps32
  go_wp2_with fail
  go_ret
  refine ⟨_, _, rfl, ?_, below_alloc (below_alloc (Below.refl _ _) _) _⟩
  have hb1 : Below w.heap.size w (w.alloc (.cells #[.slice A1 n1 c1, .slice A2 n2 c2] 37)) := below_alloc (Below.refl _ _) _
  have h := N_new1 (e := 39) (W := w.alloc (.cells #[.slice A1 n1 c1, .slice A2 n2 c2] 37)) (by have := HB.out; rw [sz_alloc]; omega) (FK_evt (k := k) (Kd.R_below H1.out hb1) (Kd.R_below H2.out hb1)) (by decide)
  rw [sz_alloc] at h
  exact h
theorem results_tmp4 {fn : Func} {t u v x : Tmp} (h : fn.results = #[.tmp t, .tmp u, .tmp v, .tmp x]) (tmps : Array Value) (P : Program) (w : World) :
    (results fn tmps).run P w = .ok (.tuple #[tmps.getD t undef, tmps.getD u undef, tmps.getD v undef, tmps.getD x undef]) w := by
  simp [results, h]
theorem below_bytesW (w : World) (e : TypeId) (s : ByteArray) : Below w.heap.size w (Lib.bytesWorld w e s) := ⟨rfl, rfl, rfl, by rw [Lib.bytesWorld_size]; omega, fun j hj => Lib.bytesWorld_at_old w e s j hj⟩
/-- What stands between the last brace and the end. -/
def markD (l : List UInt8) : List UInt8 := (l.take (l.length - 1)).drop ((Lib.lastIndexByte (str l) 123).toNat + 1)
abbrev digs : List UInt8 := [48, 49, 50, 51, 52, 53, 54, 55, 56, 57]
/-- The text ahead of a mark, its number, and whether the client goes on. -/
def markS (l : List UInt8) : Option (List UInt8 × Int × Bool) :=
  if Lib.hasSuffix l [125] = true then
    if Lib.lastIndexByte (str l) 123 < 0 then none
    else if Lib.trimSuffix (markD l) [43] = [] ∨ 6 < (Lib.trimSuffix (markD l) [43]).length ∨ Lib.trimS (Lib.trimSuffix (markD l) [43]) digs ≠ [] then none
    else some (l.take (Lib.lastIndexByte (str l) 123).toNat, (Lib.atoi (Lib.trimSuffix (markD l) [43])).getD 0, Lib.hasSuffix (markD l) [43])
  else none
def markV (l : List UInt8) : Value := match markS l with
  | none => .tuple #[.string (str l), .int .i64 0, .bool false, .bool false]
  | some (t, n, on) => .tuple #[.string (str t), .int .i64 n, .bool on, .bool true]
theorem dropAll {p : UInt8 → Bool} : ∀ (l : List UInt8), l.dropWhile p = [] → ∀ c, c ∈ l → p c = true
  | [], _, c, hc => by cases hc
  | a :: l, h, c, hc => by
    rw [List.dropWhile_cons] at h
    split at h
    · rename_i ha
      rcases List.mem_cons.1 hc with rfl | hc
      · exact ha
      · exact dropAll l h c hc
    · cases h
theorem dropHead {p : UInt8 → Bool} : ∀ (l : List UInt8) a t, l.dropWhile p = a :: t → p a = false
  | [], a, t, h => by cases h
  | b :: l, a, t, h => by
    rw [List.dropWhile_cons] at h
    split at h
    · exact dropHead l a t h
    · rename_i hb
      injection h with h1 h2
      subst h1
      simpa using hb
theorem trim_none (l cs : List UInt8) (h : Lib.trimS l cs = []) : ∀ c, c ∈ l → c ∈ cs := by
  unfold Lib.trimS Lib.trimLeftS Lib.trimRightS at h
  intro c hc
  have hnil : l.reverse.dropWhile (cs.contains ·) = [] := by
    cases he : l.reverse.dropWhile (cs.contains ·) with
    | nil => rfl
    | cons a t =>
      exfalso
      have h1 := dropAll _ h a (by rw [he]; simp)
      have h2 := dropHead _ a t he
      rw [h1] at h2
      cases h2
  have := dropAll _ hnil c (by simpa using hc)
  simpa using this
theorem decFrom_digs : ∀ (d : List UInt8) (acc : Nat), (∀ c ∈ d, c ∈ digs) → ∃ m, Lib.decFrom acc d = some m
  | [], acc, _ => ⟨acc, rfl⟩
  | c :: d, acc, h => by
    have hc := h c (List.mem_cons_self ..)
    have : ∃ k, Lib.digitVal c = some k := by
      simp only [List.mem_cons, List.mem_nil_iff, or_false] at hc
      rcases hc with rfl | rfl | rfl | rfl | rfl | rfl | rfl | rfl | rfl | rfl <;> exact ⟨_, rfl⟩
    obtain ⟨k, hk⟩ := this
    rw [Lib.decFrom, hk]
    exact decFrom_digs d _ (fun x hx => h x (List.mem_cons_of_mem _ hx))
theorem atoi_digs (d : List UInt8) (h0 : d ≠ []) (h : ∀ c ∈ d, c ∈ digs) : ∃ m : Nat, Lib.atoi d = some (m : Int) := by
  cases d with
  | nil => exact absurd rfl h0
  | cons c d =>
    obtain ⟨m, hm⟩ := decFrom_digs (c :: d) 0 h
    have hc := h c (List.mem_cons_self ..)
    have h1 : (c == 45) = false ∧ (c == 43) = false := by
      simp only [List.mem_cons, List.mem_nil_iff, or_false] at hc
      rcases hc with rfl | rfl | rfl | rfl | rfl | rfl | rfl | rfl | rfl | rfl <;> exact ⟨rfl, rfl⟩
    refine ⟨m, ?_⟩
    rw [Lib.atoi, h1.1, h1.2]
    simp only [Bool.false_eq_true, if_false, Lib.decNat, List.isEmpty_cons]
    rw [hm]; rfl
theorem str_list (l : List UInt8) : (str l).data.toList = l := rfl
theorem str_size (l : List UInt8) : (str l).size = l.length := rfl
theorem str_extract (l : List UInt8) (a b : Nat) : (str l).extract a b = str ((l.take b).drop a) := ba_extract l a b
theorem str_nil (l : List UInt8) : ((str l).toList == ([] : List UInt8)) = decide (l = []) := by
  rw [show (str l).toList = l from ba_toList l]
  cases l <;> rfl
theorem str_nnil (l : List UInt8) : ((str l).toList != ([] : List UInt8)) = !decide (l = []) := by
  rw [bne, str_nil]
/-- Where the last brace stands: ahead of the end, if the last byte is another one. -/
theorem last_lt (l : List UInt8) (h : Lib.hasSuffix l [125] = true) : Lib.lastIndexByte (str l) 123 < (l.length : Int) - 1 ∧ -1 ≤ Lib.lastIndexByte (str l) 123 := by
  have hs := Lib.lastIndexByte_spec (str l) 123
  have hsz : (str l).size = l.length := rfl
  obtain ⟨p, hp⟩ := List.isSuffixOf_iff_suffix.1 (show List.isSuffixOf [125] l = true from h)
  have hl : l.length = p.length + 1 := by rw [← hp]; simp
  rcases hs with ⟨e, _⟩ | ⟨i, hi, e, hc, _⟩
  · omega
  · refine ⟨?_, by omega⟩
    rw [hsz] at hi
    by_cases hie : i = p.length
    · exfalso
      subst hie
      have h1 : (str l).data[p.length]! = 125 := by
        show l.toArray[p.length]! = 125
        rw [getElem!_pos l.toArray p.length (by simpa using hi)]
        simp [← hp]
      rw [h1] at hc
      exact absurd hc (by decide)
    · omega
set_option maxHeartbeats 4000000 in
set_option maxRecDepth 100000 in
theorem mark_ok (l : List UInt8) (w : World) (hl : l.length ≤ 1000000000) :
    Calls Tryd.prog 35 #[.string (str l)] w fun e w' => e = .returned (markV l) ∧ Below w.heap.size w w' := by
  have HL := Aside0.mk hl
  have hsz : (str l).size = l.length := rfl
  clear hl
  go_enter Tryd.func35, Tryd.ntmps35
  go_wp2_with fail
  refine (hasSuffix_any (str l) ⟨#[125]⟩ w (by have := HL.out; rw [str_size]; omega)).mono ?_
  rintro e w1 ⟨rfl, rfl⟩
  rw [str_list]
  obtain ⟨b1, hb1⟩ : ∃ b, b = Lib.hasSuffix l [125] := ⟨_, rfl⟩
  have HB1 := Aside0.mk hb1
  rw [show ((⟨#[125]⟩ : ByteArray).data.toList) = [125] from rfl, ← hb1]
  clear hb1
  cases b1 with
  | false =>
    have HM := Aside0.mk (show markS l = none by unfold markS; rw [if_neg (by rw [← HB1.out]; decide)])
    go_wp2_with fail
    ((try simp only [Exit.inBlock, Exit.then]); refine bodyPost_ret (results_tmp4 rfl _ _ _) rfl ?_)
    exact ⟨by rw [markV, HM.out]; rfl, Below.refl _ _⟩
  | true =>
    go_wp2_with fail
    refine (lastByte_any (str l) 123 (by have := HL.out; rw [str_size]; omega) w1).mono ?_
    rintro e w2 ⟨rfl, rfl⟩
    obtain ⟨h1, h2⟩ := last_lt l HB1.out.symm
    obtain ⟨a, ha⟩ : ∃ a, a = Lib.lastIndexByte (str l) 123 := ⟨_, rfl⟩
    have HA := Aside0.mk ha
    have H12 := Aside0.mk (And.intro h1 h2)
    rw [← ha] at H12 ⊢
    clear ha h1 h2
    by_cases hn : a < 0
    · have hnb := decide_eq_true hn
      have HM := Aside0.mk (show markS l = none by unfold markS; rw [if_pos HB1.out.symm, if_pos (by rw [← HA.out]; exact hn)])
      clear hn
      go_wp2_with fail
      ((try simp only [Exit.inBlock, Exit.then]); refine bodyPost_ret (results_tmp4 rfl _ _ _) rfl ?_)
      exact ⟨by rw [markV, HM.out]; rfl, Below.refl _ _⟩
    · have hnb := decide_eq_false hn
      have HN := Aside0.mk hn
      obtain ⟨j1, hj1⟩ : ∃ j, wrap64 (a + 1) = j := ⟨_, rfl⟩
      obtain ⟨j2, hj2⟩ : ∃ j, wrap64 ((l.length : Int) - 1) = j := ⟨_, rfl⟩
      have hjw1 : IntKind.i64.wrap (a + 1) = j1 := (i64_w _).trans hj1
      have hjw2 : IntKind.i64.wrap ((l.length : Int) - 1) = j2 := (i64_w _).trans hj2
      have HJ := Aside0.mk (show j1 = a + 1 ∧ j2 = (l.length : Int) - 1 by have := HL.out; have := H12.out; rw [← hj1, ← hj2]; unfold wrap64; omega)
      have p1 := eq_true (show 0 ≤ j1 by have := HJ.out; omega)
      have p2 := eq_true (show j1 ≤ j2 by have := HJ.out; have := H12.out; omega)
      have p3 := eq_true (show j2 ≤ (l.length : Int) by have := HJ.out; omega)
      clear hn hj1 hj2
      have HD := Aside0.mk (show (str l).extract j1.toNat j2.toNat = str (markD l) by
        rw [str_extract]
        unfold markD
        rw [← HA.out]
        congr 2
        · have := HJ.out; have := HN.out; omega
        · congr 1; have := HJ.out; have := HN.out; omega)
      have HDL := Aside0.mk (show (markD l).length ≤ 1000000000 by
        unfold markD
        rw [List.length_drop, List.length_take]
        have := HL.out; omega)
      go_wp2_with fail
      rw [HD.out]
      clear p1 p2 p3
      refine (hasSuffix_any (str (markD l)) ⟨#[43]⟩ _ (by have := HDL.out; rw [str_size]; omega)).mono ?_
      rintro e w3 ⟨rfl, rfl⟩
      rw [str_list, show ((⟨#[43]⟩ : ByteArray).data.toList) = [43] from rfl]
      go_wp2_with fail
      refine (trimSuffix_any (str (markD l)) ⟨#[43]⟩ _ (by have := HDL.out; rw [str_size]; omega)).mono ?_
      rintro e w4 ⟨rfl, rfl⟩
      rw [str_list, show ((⟨#[43]⟩ : ByteArray).data.toList) = [43] from rfl]
      obtain ⟨on, hon⟩ : ∃ on, on = Lib.hasSuffix (markD l) [43] := ⟨_, rfl⟩
      obtain ⟨d, hd⟩ : ∃ d, d = Lib.trimSuffix (markD l) [43] := ⟨_, rfl⟩
      have HON := Aside0.mk hon
      have HDD := Aside0.mk hd
      rw [← hon, ← hd, show (⟨d.toArray⟩ : ByteArray) = str d from rfl]
      clear hon hd
      have hdz : (str d).size = d.length := rfl
      have hds := str_nil d
      by_cases he : d = []
      · have HM := Aside0.mk (show markS l = none by unfold markS; rw [if_pos HB1.out.symm, if_neg (by rw [← HA.out]; have := HN.out; omega), if_pos (.inl (by rw [← HDD.out]; exact he))])
        rw [decide_eq_true he] at hds
        clear he
        go_wp2_with fail
        ((try simp only [Exit.inBlock, Exit.then]); refine bodyPost_ret (results_tmp4 rfl _ _ _) rfl ?_)
        exact ⟨by rw [markV, HM.out]; rfl, Below.refl _ _⟩
      · rw [decide_eq_false he] at hds
        have HE := Aside0.mk he
        clear he
        by_cases h6 : 6 < d.length
        · have h6b : decide ((6 : Int) < (d.length : Int)) = true := decide_eq_true (by omega)
          have h6c := eq_true h6
          have HM := Aside0.mk (show markS l = none by unfold markS; rw [if_pos HB1.out.symm, if_neg (by rw [← HA.out]; have := HN.out; omega), if_pos (.inr (.inl (by rw [← HDD.out]; exact h6)))])
          clear h6
          go_wp2_with fail
          ((try simp only [Exit.inBlock, Exit.then]); refine bodyPost_ret (results_tmp4 rfl _ _ _) rfl ?_)
          exact ⟨by rw [markV, HM.out]; rfl, Below.refl _ _⟩
        · have h6b : decide ((6 : Int) < (d.length : Int)) = false := decide_eq_false (by omega)
          have h6c := eq_false h6
          have H6 := Aside0.mk h6
          clear h6
          go_wp2_with fail
          refine (trim_any (str d) ⟨#[48, 49, 50, 51, 52, 53, 54, 55, 56, 57]⟩ _ (by have := H6.out; rw [str_size]; omega) (by decide) (fun j b hj => by
            have hm := List.mem_of_getElem? hj
            have hall : ([48, 49, 50, 51, 52, 53, 54, 55, 56, 57] : List UInt8).all (fun b => decide (b.toNat < 128)) = true := by decide
            exact of_decide_eq_true (List.all_eq_true.1 hall b hm))).mono ?_
          rintro e w5 ⟨rfl, hb5⟩
          rw [str_list, show ((⟨#[48, 49, 50, 51, 52, 53, 54, 55, 56, 57]⟩ : ByteArray).data.toList) = digs from rfl]
          obtain ⟨tr, htr⟩ : ∃ tr, tr = Lib.trimS d digs := ⟨_, rfl⟩
          rw [← htr, show (⟨tr.toArray⟩ : ByteArray) = str tr from rfl]
          have HTR := Aside0.mk htr
          have HB5 := Aside0.mk hb5
          have htn := str_nnil tr
          have htn2 := str_nil tr
          clear htr hb5
          by_cases ht : tr = []
          · have hmem := trim_none d digs (by rw [← HTR.out]; exact ht)
            obtain ⟨m, hm⟩ := atoi_digs d HE.out hmem
            have HM := Aside0.mk (show markS l = some (l.take a.toNat, (m : Int), on) by
              unfold markS
              rw [if_pos HB1.out.symm, if_neg (by rw [← HA.out]; have := HN.out; omega), if_neg (by
                rw [← HDD.out]
                rintro (h | h | h)
                · exact HE.out h
                · exact H6.out h
                · exact h (by rw [← HTR.out]; exact ht)), ← HA.out, ← HDD.out, hm, ← HON.out]
              rfl)
            have HMM := Aside0.mk hm
            rw [decide_eq_true ht] at htn htn2
            have q1 := eq_true (show 0 ≤ a by have := HN.out; omega)
            have q2 := eq_true (show a ≤ (l.length : Int) by have := H12.out; omega)
            clear ht hmem hm
            go_wp2_with fail
            refine (atoi_any (str d) (m : Int) (by have := H6.out; rw [str_size]; omega) HMM.out _).mono ?_
            rintro e w6 ⟨rfl, t6, rfl⟩
            go_wp2_with fail
            ((try simp only [Exit.inBlock, Exit.then]); refine bodyPost_ret (results_tmp4 rfl _ _ _) rfl ?_)
            refine ⟨?_, ?_⟩
            · rw [markV, HM.out]
              have he : (str l).extract 0 a.toNat = str (l.take a.toNat) := by rw [str_extract, List.drop_zero]
              first | rw [he] | skip
              rfl
            · exact HB5.out.trans ((below_bytesW _ _ _).mono HB5.out.size)
          · have HM := Aside0.mk (show markS l = none by unfold markS; rw [if_pos HB1.out.symm, if_neg (by rw [← HA.out]; have := HN.out; omega), if_pos (.inr (.inr (by rw [← HDD.out, ← HTR.out]; exact ht)))])
            rw [decide_eq_false ht] at htn htn2
            clear ht
            go_wp2_with fail
            ((try simp only [Exit.inBlock, Exit.then]); refine bodyPost_ret (results_tmp4 rfl _ _ _) rfl ?_)
            exact ⟨by rw [markV, HM.out]; rfl, HB5.out⟩
end Go.Proofs.YtakfdmhoooeejaaDoor.PP
