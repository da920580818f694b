/- The engine, part 2: an abstract machine for closed calls, proved sound against the kit machine, for every tape. No condition. -/
import Derived.Test.YtmgpeibjcdchnaaGreatDoorE1
import Derived.Laws.Append
import Derived.Laws.Externs
import Derived.KernelRfl
import Derived.Calls
import Derived.Orders
/- The engine: operations that make memory. -/
namespace Go.Eng
section
variable {P : Program} {E : Env} {ρ : Ren} {h : Heap} {w : World} {tm : Tr AV} {e : Operand → Value}

theorem setCells_get : ∀ (vs : List AV) (t : Tr AV) (off i : Nat), (setCells t off vs).get i = if off ≤ i ∧ i < off + vs.length then vs[i - off]? else t.get i
  | [], t, off, i => by
    simp only [setCells, List.length_nil]
    have : ¬ (off ≤ i ∧ i < off + 0) := by omega
    rw [if_neg this]
  | v :: vs, t, off, i => by
    simp only [setCells]
    rw [setCells_get vs _ (off + 1) i, Tr.get_set]
    simp only [List.length_cons]
    by_cases h1 : i = off
    · subst h1
      have e1 : ¬ (i + 1 ≤ i ∧ i < i + 1 + vs.length) := by omega
      have e2 : i ≤ i ∧ i < i + (vs.length + 1) := by omega
      rw [if_neg e1, if_pos e2, if_pos rfl]
      simp
    · by_cases h2 : off + 1 ≤ i ∧ i < off + 1 + vs.length
      · have e2 : off ≤ i ∧ i < off + (vs.length + 1) := by omega
        rw [if_pos h2, if_pos e2, show i - off = (i - (off + 1)) + 1 from by omega]
        simp
      · have e2 : ¬ (off ≤ i ∧ i < off + (vs.length + 1)) := by omega
        rw [if_neg h2, if_neg e2, if_neg h1]

theorem row_cell {cells : List AV} {i : Nat} {v : AV} (h : cellA (setCells .nil 0 cells) cells.length [] i = some v) : cells[i]? = some v := by
  have hlt := cellA_lt h
  unfold cellA at h
  have : Nat.blt i cells.length = true := by rw [Nat.blt_eq]; exact hlt
  simp only [this] at h
  rw [setCells_get] at h
  have e2 : 0 ≤ i ∧ i < 0 + cells.length := by omega
  rw [if_pos e2] at h
  simp only [Nat.sub_zero] at h
  split at h
  · rename_i u hu; cases h; exact hu
  · simp [lget] at h

/-- A row that is made of cells. -/
theorem OR_rowF {l : Loc} {cells : List AV} {xs : Array Value} {el : TypeId} {s : Nat} {g : Bool} (fr : Nat × Nat) (hfr : fr.1 = fr.2 ∨ xs.size ≤ fr.1) (hb : l.base = 0) (hc : l.c = xs.size) (hs : l.s = s) (hle : cells.length ≤ xs.size) (hg : g = false → cells.length = xs.size)
    (hr : RL ρ cells (xs.toList.take cells.length)) : OR ρ l (rowObj cells el s g) (some (.cells xs el fr)) := by
  refine ⟨hs, by omega, fun hf => ⟨hb, by rw [hc]; exact (hg hf).symm⟩, xs, fr, rfl, by omega, by rw [hb, hc, Nat.zero_add]; exact hfr, ?_⟩
  intro i v hv
  have h1 := row_cell hv
  obtain ⟨x, hx, hrx⟩ := RL_get hr (by rw [lget_eq]; exact h1)
  refine ⟨x, ?_, hrx⟩
  rw [hb, Nat.zero_add]
  rw [List.getElem?_take] at hx
  split at hx
  · simpa using hx
  · cases hx

theorem OR_row {l : Loc} {cells : List AV} {xs : Array Value} {el : TypeId} {s : Nat} {g : Bool} (hb : l.base = 0) (hc : l.c = xs.size) (hs : l.s = s) (hle : cells.length ≤ xs.size) (hg : g = false → cells.length = xs.size)
    (hr : RL ρ cells (xs.toList.take cells.length)) : OR ρ l (rowObj cells el s g) (some (.cells xs el (0, 0))) :=
  OR_rowF (0, 0) (.inl rfl) hb hc hs hle hg hr

/-- Cells that begin with nothing set. -/
theorem OR_zero {l : Loc} {zero : List AV} {xs : Array Value} {el : TypeId} {s : Nat} (hb : l.base = 0) (hc : l.c = xs.size) (hs : l.s = s)
    (hr : ∀ i, i < xs.size → ∀ v, lget zero (i % zero.length) = some v → ∃ x, xs[i]? = some x ∧ R ρ v x) : OR ρ l (.cells .nil xs.size zero el s false) (some (.cells xs el (0, 0))) := by
  refine ⟨hs, by omega, fun _ => ⟨hb, hc⟩, xs, (0, 0), rfl, by omega, .inl rfl, ?_⟩
  intro i v hv
  have hlt := cellA_lt hv
  unfold cellA at hv
  have : Nat.blt i xs.size = true := by rw [Nat.blt_eq]; exact hlt
  simp only [this, Tr.get_nil] at hv
  rw [hb, Nat.zero_add]
  exact hr i hlt v hv

theorem zero_cells {zero : List AV} {z : Array Value} (hz : z.toList.map ofC = zero) {n i : Nat} (hi : i < n) {v : AV} (hv : lget zero (i % zero.length) = some v) :
    ∃ x, ((Array.range n).map (fun j => z[j % z.size]!))[i]? = some x ∧ R ρ v x := by
  have hlen : zero.length = z.size := by rw [← hz]; simp
  rw [lget_eq, ← hz] at hv
  rw [show (z.toList.map ofC).length = z.size from by simp] at hv
  simp only [List.getElem?_map, Option.map_eq_some_iff] at hv
  obtain ⟨u, hu, rfl⟩ := hv
  have hu' : z[i % z.size]? = some u := by simpa using hu
  have hlt : i % z.size < z.size := by
    rcases Nat.lt_or_ge (i % z.size) z.size with h' | h'
    · exact h'
    · rw [Array.getElem?_eq_none h'] at hu'; cases hu'
  refine ⟨u, ?_, R_ofC u⟩
  rw [Array.getElem?_map, Array.getElem?_range]
  simp only [hi, if_true, Option.map_some]
  rw [getElem!_pos z _ hlt]
  rw [Array.getElem?_eq_getElem hlt] at hu'
  cases hu'
  rfl

theorem rep_ok {zero : List AV} {z : Array Value} (hz : z.toList.map ofC = zero) (hne : z.size ≠ 0) : ∀ (n : Nat), RL ρ (rep n zero) ((Array.range (n * z.size)).map (fun j => z[j % z.size]!)).toList
  | 0 => by simp [rep, RL]
  | n + 1 => by
    have ih := rep_ok hz hne n
    have e1 : ((Array.range ((n + 1) * z.size)).map (fun j => z[j % z.size]!)).toList = z.toList ++ ((Array.range (n * z.size)).map (fun j => z[j % z.size]!)).toList := by
      apply List.ext_getElem?
      intro i
      simp only [Array.toList_map, Array.toList_range, List.getElem?_map, List.getElem?_append, Array.length_toList]
      by_cases h1 : i < z.size
      · rw [if_pos h1]
        have h2 : i < (n + 1) * z.size := Nat.lt_of_lt_of_le h1 (Nat.le_mul_of_pos_left _ (by omega))
        rw [List.getElem?_range h2]
        simp only [Option.map_some, Nat.mod_eq_of_lt h1]
        rw [getElem!_pos z _ h1]
        simp [h1]
      · rw [if_neg h1]
        by_cases h2 : i < (n + 1) * z.size
        · rw [Nat.add_mul, Nat.one_mul] at h2
          rw [List.getElem?_range (by rw [Nat.add_mul, Nat.one_mul]; exact h2), List.getElem?_range (by omega)]
          simp only [Option.map_some]
          congr 2
          rw [Nat.mod_eq_sub_mod (by omega)]
        · have h3 : ¬ i - z.size < n * z.size := by rw [Nat.add_mul, Nat.one_mul] at h2; omega
          rw [List.getElem?_eq_none (by simp; omega), List.getElem?_eq_none (by simp; omega)]
    rw [e1]
    exact RL_append (by rw [← hz]; exact RL_ofC _) ih

theorem rep_nil {α : Type} : ∀ n, rep n ([] : List α) = []
  | 0 => rfl
  | n + 1 => by simp [rep, rep_nil n]

set_option maxHeartbeats 1000000 in
theorem aopA_ok (ok : EnvOK P E) (he : EvOK E.nG ρ tm e) {n : Nat} {o : Oper} {v : AV} {ob : AObj} (hv : aopA E tm n o.op = some (v, ob)) :
    ∃ y ob' c s, (execOp e o).run P w = .ok (.value y) (w.alloc ob') ∧ ∀ ρ', ρ.le ρ' → ρ' n = some ⟨w.heap.size, 0, c, s⟩ → R ρ' v y ∧ OR ρ' ⟨w.heap.size, 0, c, s⟩ ob (some ob') := by
  rw [aopA_def] at hv
  unfold aopA0 at hv
  unfold execOp
  split at hv
  · -- alloc
    rename_i t hx
    rw [hx]
    split at hv
    · rename_i i hi
      cases hv
      obtain ⟨z, hz1, hz2, hz3, _⟩ := run_zeroValue (w := w) (ok.T _ _ hi)
      refine ⟨.pointer (some ⟨w.heap.size, 0, none⟩), .cells z.cells t, i.size, i.size, ?_, ?_⟩
      · simp [Instr.alloc, hz1, newVar, newRow]
      · intro ρ' hle hn
        refine ⟨by simp only [R]; exact ⟨_, hn, rfl⟩, ?_⟩
        have hlen : i.zero.length = z.cells.size := by rw [← hz2]; simp
        have := OR_zero (ρ := ρ') (l := ⟨w.heap.size, 0, i.size, i.size⟩) (zero := i.zero) (xs := z.cells) (el := t) (s := i.size) rfl hz3.symm rfl (by
          intro k hk u hu
          rw [lget_eq, ← hz2] at hu
          rw [show (z.cells.toList.map ofC).length = z.cells.size from by simp, Nat.mod_eq_of_lt hk] at hu
          simp only [List.getElem?_map, Option.map_eq_some_iff] at hu
          obtain ⟨x, hx1, rfl⟩ := hu
          exact ⟨x, by simpa using hx1, R_ofC x⟩)
        rw [hz3] at this
        exact this
    · cases hv
  · -- box
    rename_i t x hx
    rw [hx]
    split at hv
    · rename_i u hu
      split at hv
      · rename_i hb
        cases hv
        have hr := he _ _ hu
        refine ⟨.pointer (some ⟨w.heap.size, 0, none⟩), .cells (e x).cells t, (e x).cells.size, (cellsOf u).length, ?_, ?_⟩
        · simp [Instr.box, newVar, newRow]
        · intro ρ' hle hn
          have hc := cellsOf_ok (R_mono hle _ _ hr) hb
          have hlen := RL_length hc
          refine ⟨by simp only [R]; exact ⟨_, hn, rfl⟩, ?_⟩
          refine OR_row rfl rfl rfl (by rw [hlen]; simp) (fun _ => by rw [hlen]; simp) ?_
          rw [hlen, List.take_length]
          exact hc
      · cases hv
    · cases hv
  · -- buildSlice
    rename_i t len parts hx
    rw [hx]
    split at hv
    · rename_i i hi
      have hun := (ok.T _ _ hi).und
      split at hv
      · rename_i el hd
        rw [hd] at hun
        split at hv
        · rename_i ei hei
          have hT := ok.T _ _ hei
          have hsz := run_sizeOf (w := w) hT
          obtain ⟨z, hz1, hz2, hz3, _⟩ := run_zeroValue (w := w) hT
          split at hv
          · rename_i l hle hl
            rw [Nat.ble_eq] at hle
            split at hv
            · rename_i cs hcs
              cases hv
              have hpr := partsA_pr he hl
              have hzero : ∃ (za : Array Value), ((len * ei.size = 0 ∧ za = #[]) ∨ (¬ len * ei.size = 0 ∧ za = z.cells)) ∧
                  RL ρ (rep len ei.zero) ((Array.range (len * ei.size)).map (fun j => za[j % za.size]!)).toList := by
                by_cases h0 : len * ei.size = 0
                · refine ⟨#[], .inl ⟨h0, rfl⟩, ?_⟩
                  have : rep len ei.zero = [] := by
                    rcases Nat.mul_eq_zero.1 h0 with h1 | h1
                    · subst h1; rfl
                    · have : ei.zero = [] := by
                        rw [← hz2]
                        have : z.cells = #[] := Array.eq_empty_of_size_eq_zero (by rw [hz3, h1])
                        simp [this]
                      rw [this]
                      exact rep_nil len
                  rw [this, h0]
                  simp [RL]
                · refine ⟨z.cells, .inr ⟨h0, rfl⟩, ?_⟩
                  have hne : z.cells.size ≠ 0 := by rw [hz3]; intro h; rw [h] at h0; simp at h0
                  have := rep_ok (ρ := ρ) hz2 hne len
                  rw [hz3] at this ⊢
                  exact this
              obtain ⟨za, hza1, hza2⟩ := hzero
              obtain ⟨cs', h1, h2⟩ := fillA_ok hpr hza2 hcs
              refine ⟨.slice (some ⟨w.heap.size, 0, none⟩) len len, .cells cs' el, cs'.size, ei.size, ?_, ?_⟩
              · have hnl : ¬ len * ei.size > 2 ^ 24 := by omega
                have h1' : Instr.fill (fun i => some (i * ei.size, ei.size)) ((Array.range (len * ei.size)).map (fun j => za[j % za.size]!)) (parts.toList.map fun p => (p.1, e p.2)) = some cs' := h1
                show ((do pure (Next.value (← Instr.buildSlice t len (parts.map fun (i, x) => (i, e x))))) : Sem Next).run P w = _
                have e2 : (parts.map fun (x : Nat × Operand) => (x.1, e x.2)).toList = parts.toList.map fun p => (p.1, e p.2) := by simp
                rcases hza1 with ⟨h0, rfl⟩ | ⟨h0, rfl⟩
                · simp only [Instr.buildSlice, Sem.run_bind, run_underlying hun, Result.andThen_ok, hsz, if_neg hnl, if_pos h0, Sem.run_pure, e2, h1', newRow, run_newObj]
                  rfl
                · simp only [Instr.buildSlice, Sem.run_bind, run_underlying hun, Result.andThen_ok, hsz, if_neg hnl, if_neg h0, hz1, Sem.run_pure, e2, h1', newRow, run_newObj]
                  rfl
              · intro ρ' hle' hn
                have hlen := RL_length h2
                refine ⟨by simp only [R]; exact ⟨_, hn, rfl⟩, ?_⟩
                refine OR_row rfl rfl rfl (by rw [hlen]; simp) (fun _ => by rw [hlen]; simp) ?_
                rw [hlen, List.take_length]
                exact RL_mono hle' _ _ h2
            · cases hv
          · cases hv
        · cases hv
      · cases hv
    · cases hv
  · -- makeMap
    rename_i t rv hx
    rw [hx]
    split at hv
    · cases hv
      refine ⟨.map (some w.heap.size), .map #[] 0, 0, 0, ?_, ?_⟩
      · simp [Instr.makeMap]
      · intro ρ' hle hn
        exact ⟨by simp only [R]; exact ⟨_, hn, rfl⟩, #[], rfl, by simp [ER]⟩
    · cases hv
  · -- makeSlice
    rename_i t l c hx
    rw [hx]
    split at hv
    · rename_i lv cv i hl hc hi
      have hun := (ok.T _ _ hi).und
      split at hv
      · rename_i k m el hk hm hd
        rw [hd] at hun
        obtain ⟨kk, hke⟩ := natOf_ok (he _ _ hl) hk
        obtain ⟨mk, hme⟩ := natOf_ok (he _ _ hc) hm
        split at hv
        · rename_i ei hei
          have hT := ok.T _ _ hei
          have hsz := run_sizeOf (w := w) hT
          obtain ⟨z, hz1, hz2, hz3, _⟩ := run_zeroValue (w := w) hT
          obtain ⟨ti, z', g1, g2, g3, _⟩ := hT.info
          have hti := run_typeInfo (w := w) g1
          split at hv
          · rename_i hle
            simp only [Bool.and_eq_true, Nat.ble_eq] at hle
            obtain ⟨⟨hle1, hle2⟩, hle3⟩ := hle
            cases hv
            have hw1 : ∀ n : Nat, n ≤ 1048576 → IntKind.i64.wrap (Int.ofNat n) = Int.ofNat n := by
              intro n hn
              rw [← wrapI_eq]
              unfold wrapI
              have : Nat.blt n 9223372036854775808 = true := by rw [Nat.blt_eq]; omega
              simp [this]
            have hmul : ∀ n : Nat, n ≤ 1048576 → ¬ ((ti.bytes : Int) * Int.ofNat n > 2 ^ 48) := by
              intro n hn h
              have h1 : ti.bytes * n ≤ 1048576 * 1048576 := Nat.mul_le_mul (by omega) hn
              have h2 : ((ti.bytes : Int) * Int.ofNat n) = ((ti.bytes * n : Nat) : Int) := by simp
              rw [h2] at h
              omega
            have hza : ∃ (za : Array Value), ((m * ei.size = 0 ∧ za = #[]) ∨ (¬ m * ei.size = 0 ∧ za = z.cells)) ∧
                ∀ (i : Nat), i < m * ei.size → ∀ v, lget ei.zero (i % ei.zero.length) = some v → ∃ x, ((Array.range (m * ei.size)).map (fun j => za[j % za.size]!))[i]? = some x ∧ R ρ v x := by
              by_cases h0 : m * ei.size = 0
              · exact ⟨#[], .inl ⟨h0, rfl⟩, fun i hi => by omega⟩
              · exact ⟨z.cells, .inr ⟨h0, rfl⟩, fun i hi v hv => zero_cells hz2 hi hv⟩
            obtain ⟨za, hza1, hza2⟩ := hza
            refine ⟨.slice (some ⟨w.heap.size, 0, none⟩) k m, .cells ((Array.range (m * ei.size)).map (fun j => za[j % za.size]!)) el, m * ei.size, ei.size, ?_, ?_⟩
            · show ((do pure (Next.value (← Instr.makeSlice t (e l) (e c)))) : Sem Next).run P w = _
              rw [hke, hme]
              have hc1 : ¬ ((Int.ofNat m < 0 ∨ (ti.bytes : Int) * Int.ofNat m > 2 ^ 48) ∨ Int.ofNat k < 0) := by
                rintro ((h | h) | h)
                · simp at h; omega
                · exact hmul m hle2 h
                · simp at h; omega
              simp only [Instr.makeSlice, Sem.run_bind, run_underlying hun, Result.andThen_ok, asInt, asIntOf, Sem.run_pure, hti, hw1 k (by omega), hw1 m hle2]
              have hcond : ¬ ((decide (Int.ofNat m < 0) || decide ((ti.bytes : Int) * Int.ofNat m > 2 ^ 48) || decide (Int.ofNat k < 0) || decide (Int.ofNat k > Int.ofNat m)) = true) := by
                simp only [Bool.or_eq_true, decide_eq_true_eq]
                rintro (h | h)
                · exact hc1 h
                · simp at h; omega
              rw [if_neg hcond]
              have e3 : (Int.ofNat m).toNat = m := rfl
              have e4 : (Int.ofNat k).toNat = k := rfl
              rw [e3, e4]
              rcases hza1 with ⟨h0, rfl⟩ | ⟨h0, rfl⟩
              · simp only [Sem.run_bind, run_askRoom, Result.andThen_ok, hsz, if_pos h0, Sem.run_pure, newRow, run_newObj]
                rfl
              · simp only [Sem.run_bind, run_askRoom, Result.andThen_ok, hsz, if_neg h0, hz1, Sem.run_pure, newRow, run_newObj]
                rfl
            · intro ρ' hle' hn
              refine ⟨by simp only [R]; exact ⟨_, hn, rfl⟩, ?_⟩
              have := OR_zero (ρ := ρ') (l := ⟨w.heap.size, 0, m * ei.size, ei.size⟩) (zero := ei.zero) (xs := (Array.range (m * ei.size)).map (fun j => za[j % za.size]!)) (el := el) (s := ei.size) rfl (by simp) rfl (by
                intro i hi v hv
                obtain ⟨x, hx1, hx2⟩ := hza2 i (by simpa using hi) v hv
                exact ⟨x, hx1, R_mono hle' _ _ hx2⟩)
              simp only [Array.size_map, Array.size_range] at this
              exact this
          · cases hv
        · cases hv
      · cases hv
    · cases hv
  · cases hv
end
end Go.Eng

/- The engine: operations that write. -/
namespace Go.Eng
section
variable {P : Program} {E : Env} {ρ : Ren} {h : Heap} {w : World} {tm : Tr AV} {e : Operand → Value}

theorem simple_one {v : AV} {x : Value} (hr : R ρ v x) (hs : simple v = true) : x.oneCell' = true := by
  cases v with
  | sc u => simp only [R] at hr; subst hr; cases x <;> first | rfl | simp [simple] at hs
  | agg cs => simp [simple] at hs
  | tup cs => simp [simple] at hs
  | any => simp [simple] at hs
  | slc n off len cap => simp only [R] at hr; obtain ⟨l, _, hsl⟩ := hr; obtain ⟨a, c, rfl⟩ := slcV_some hsl; rfl
  | str l => simp only [R] at hr; rw [hr.1]; rfl
  | ptr n o => simp only [R] at hr; obtain ⟨l, _, rfl⟩ := hr; rfl
  | emp => simp only [R] at hr; obtain ⟨a, c, rfl⟩ := hr; rfl
  | mp n => simp only [R] at hr; obtain ⟨l, _, rfl⟩ := hr; rfl
  | fn f a b => simp only [R] at hr; obtain ⟨_, _, rfl, _⟩ := hr; rfl
  | yld n => simp only [R] at hr; obtain ⟨l, _, rfl⟩ := hr; rfl
  | ifc t u => simp only [R] at hr; obtain ⟨_, rfl, _⟩ := hr; rfl

theorem simples_one : ∀ {vs : List AV} {xs : List Value}, RL ρ vs xs → vs.all simple = true → ∀ x ∈ xs, x.oneCell' = true
  | [], xs, hr, _ => by simp only [RL] at hr; subst hr; simp
  | v :: vs, xs, hr, hs => by
    simp only [RL] at hr
    obtain ⟨b, bs, rfl, h1, h2⟩ := hr
    simp only [List.all_cons, Bool.and_eq_true] at hs
    intro x hx
    rcases List.mem_cons.1 hx with rfl | hx
    · exact simple_one h1 hs.1
    · exact simples_one h2 hs.2 x hx

/-- Cells that are stored, one behind the other. -/
theorem run_storeCells {b : Nat} {el : TypeId} {fr : Nat × Nat} : ∀ {xs : List Value} {w : World} {c : Array Value} {o i : Nat}, w.heap[b]? = some (.cells c el fr) →
    (∀ j, j < xs.length → o + i + j < c.size ∧ ¬ (fr.1 ≤ o + i + j ∧ o + i + j < fr.2)) → (∀ x ∈ xs, x.oneCell' = true) →
    ∃ w' c', (storeCells ⟨b, o, none⟩ xs i).run P w = .ok () w' ∧ w'.heap[b]? = some (.cells c' el fr) ∧ w'.heap.size = w.heap.size ∧ (∀ k, k ≠ b → w'.heap[k]? = w.heap[k]?) ∧ c'.size = c.size ∧
      (∀ k, c'[k]? = if o + i ≤ k ∧ k < o + i + xs.length then xs[k - (o + i)]? else c[k]?) ∧ Kpt w w'
  | [], w, c, o, i, hb, _, _ => by
    refine ⟨w, c, by simp [storeCells], hb, rfl, fun _ _ => rfl, rfl, fun k => ?_, rfl, rfl, rfl⟩
    simp only [List.length_nil]
    rw [if_neg (by omega)]
  | x :: xs, w, c, o, i, hb, hin, ho => by
    obtain ⟨h1, h2⟩ := hin 0 (by simp)
    simp only [Nat.add_zero] at h1 h2
    have ha : (⟨b, o, none⟩ : Addr).add i = ⟨b, o + i, none⟩ := by
      unfold Addr.add
      split
      · rename_i hi; subst hi; rfl
      · rfl
    have hcell : w.cell? ⟨b, o + i, none⟩ = c[o + i]? := cell_of hb _
    have hcell' : w.cell? ⟨b, o + i, none⟩ = some c[o + i] := by rw [hcell, Array.getElem?_eq_getElem h1]
    have hfr : w.frozen? ⟨b, o + i, none⟩ = false := by
      simp only [World.frozen?, hb]
      simpa using h2
    have hst : (store ⟨b, o + i, none⟩ x).run P w = .ok () (w.setCell ⟨b, o + i, none⟩ x) := by
      rw [run_store P w _ x _ (ho x (by simp)), hcell', hfr]
      rfl
    have hb' : (w.setCell ⟨b, o + i, none⟩ x).heap[b]? = some (.cells (c.setIfInBounds (o + i) x) el fr) := by
      simp only [World.setCell, Array.getElem?_modify, if_true, hb, Option.map_some]
      simp
    obtain ⟨w', c', g1, g2, g3, g4, g5, g6, g7⟩ := run_storeCells (xs := xs) (o := o) (i := i + 1) hb' (fun j hj => by
      have := hin (j + 1) (by simp; omega)
      rw [Array.size_setIfInBounds]
      exact ⟨by omega, by rw [show o + (i + 1) + j = o + i + (j + 1) from by omega]; exact this.2⟩) (fun y hy => ho y (List.mem_cons_of_mem _ hy))
    refine ⟨w', c', ?_, g2, by rw [g3]; simp, ?_, by rw [g5]; simp, ?_, Kpt.trans ⟨rfl, rfl, rfl⟩ g7⟩
    · simp only [storeCells, Sem.run_bind, ha, hst, Result.andThen_ok, g1]
    · intro k hk
      rw [g4 k hk]
      simp only [World.setCell, Array.getElem?_modify]
      rw [if_neg (by intro h; exact hk h.symm)]
    · intro k
      rw [g6 k]
      simp only [List.length_cons]
      by_cases h3 : o + (i + 1) ≤ k ∧ k < o + (i + 1) + xs.length
      · rw [if_pos h3, if_pos (by omega), show k - (o + i) = (k - (o + (i + 1))) + 1 from by omega]
        simp
      · rw [if_neg h3]
        by_cases h4 : k = o + i
        · subst h4
          rw [if_pos (by omega)]
          simp [h1]
        · rw [if_neg (by omega), Array.getElem?_setIfInBounds_ne (fun h => h4 h.symm)]

theorem write_ok (r : Rel E.nG ρ h w) {n off : Nat} {vs : List AV} {xs : List Value} {l : Loc} {h' : Heap} (hl : ρ n = some l) (hr : RL ρ vs xs) (hw : h.write n off vs = some h') :
    ∃ w', (storeCells (l.at off) xs).run P w = .ok () w' ∧ Rel E.nG ρ h' w' ∧ Ext ρ h w ρ h' w' := by
  unfold Heap.write at hw
  cases vs with
  | nil =>
    simp only [Option.some.injEq] at hw
    subst hw
    simp only [RL] at hr
    subst hr
    exact ⟨w, by simp [storeCells], r, Ext.refl _ _ _⟩
  | cons v vs =>
    simp only [] at hw
    split at hw
    · rename_i t size d el s g ho
      split at hw
      · rename_i hc
        cases hw
        simp only [Bool.and_eq_true, Nat.ble_eq] at hc
        obtain ⟨hle, hsim⟩ := hc
        have hor := obj_cells r.q hl ho
        obtain ⟨q1, q2, q3, c, fr, q4, q5, q6, q7⟩ := hor
        have hlen := RL_length hr
        obtain ⟨w', c', g1, g2, g3, g4, g5, g6, g7⟩ := run_storeCells (P := P) (xs := xs) (o := l.base + off) (i := 0) q4 (fun j hj => by
          exact ⟨by omega, notFrozen q6 (by omega)⟩) (simples_one hr hsim)
        have hlive : live h n = true := live_iff.2 ⟨_, ho, by intro h; cases h⟩
        have hor' : OR ρ l (.cells (setCells t off (v :: vs)) size d el s g) w'.heap[l.b]? := by
          refine ⟨q1, q2, q3, c', fr, g2, by rw [g5, q5], q6, ?_⟩
          intro i u hu
          have hlt := cellA_lt hu
          rw [g6]
          unfold cellA at hu
          have hb : Nat.blt i size = true := by rw [Nat.blt_eq]; exact hlt
          simp only [hb] at hu
          rw [setCells_get] at hu
          by_cases hin : off ≤ i ∧ i < off + (v :: vs).length
          · rw [if_pos hin] at hu
            rw [if_pos (by omega)]
            split at hu
            · rename_i u' hu'
              cases hu
              obtain ⟨x, hx, hrx⟩ := RL_get hr (by rw [lget_eq]; exact hu')
              exact ⟨x, by rw [show l.base + i - (l.base + off + 0) = i - off from by omega]; exact hx, hrx⟩
            · rename_i hu'
              rw [List.getElem?_eq_none_iff] at hu'
              omega
          · rw [if_neg hin] at hu
            rw [if_neg (by omega)]
            refine q7 i u ?_
            unfold cellA
            simp only [hb]
            exact hu
        obtain ⟨k1, k2⟩ := r.put hlive hl g4 g3 hor' g7
        exact ⟨w', g1, k1, k2⟩
      · cases hw
    · cases hw

/-- A value whose cells append and copy take. -/
def Src (P : Program) (w : World) (s : Nat) (x : Value) (m : Nat) (xs : List Value) : Prop :=
  ∀ w' : World, w'.heap = w.heap → (Builtin.lenOf x).run P w' = .ok m w' ∧ ∀ k, k ≤ m → (Builtin.firstCells s k x).run P w' = .ok (xs.take (k * s)).toArray w'

theorem src_ok (r : Rel E.nG ρ h w) {s : Nat} {v : AV} {x : Value} {cs : List AV} {m : Nat} (hx : R ρ v x) (hs : srcCells h s v = some (cs, m)) :
    ∃ xs : List Value, xs.length = m * s ∧ RL ρ cs xs ∧ Src P w s x m xs := by
  rcases srcCells_ok r.q hx hs with ⟨l, rfl, rfl, rfl, rfl⟩ | ⟨n, c, rfl, rfl, rfl, rfl⟩ | ⟨a, c, rfl, rfl, rfl⟩ | ⟨n, off, cap, l, c, xs, rfl, hl, rfl, h1, h2, h3⟩
  · simp only [R] at hx
    obtain ⟨rfl, hlt⟩ := hx
    refine ⟨l.map fun (n : Nat) => Value.int .u8 (n : Int), by simp, ?_, ?_⟩
    · clear hlt hs
      induction l with
      | nil => simp [ofBytes, RL]
      | cons a l ih =>
        simp only [ofBytes, List.map_cons, RL] at ih ⊢
        exact ⟨_, _, rfl, by simp [R], ih⟩
    · intro w' hw'
      refine ⟨by simp [Builtin.lenOf, size_toB], fun k hk => ?_⟩
      simp only [Builtin.firstCells, Sem.run_pure]
      congr 1
      apply Array.ext'
      simp only [ByteArray.data_extract, Array.toList_map, Array.toList_extract, List.extract_eq_take_drop, Nat.mul_one, toB, List.drop_zero, Nat.sub_zero]
      rw [← List.map_take, List.map_map, ← List.map_take]
      refine List.map_congr_left fun n hn => ?_
      simp only [Function.comp]
      rw [UInt8.toNat_ofNat_of_lt' (hlt n (List.mem_of_mem_take hn))]
  · exact ⟨[], by simp, by simp [RL], fun w' _ => ⟨by simp [Builtin.lenOf], fun k hk => by simp [Builtin.firstCells]⟩⟩
  · refine ⟨[], by simp, by simp [RL], fun w' _ => ⟨by simp [Builtin.lenOf], fun k hk => ?_⟩⟩
    have : k = 0 := by omega
    subst this
    simp [Builtin.firstCells, loadCells, loadCellsFrom]
  · refine ⟨xs, h1, h2, fun w' hw' => ⟨by simp [Builtin.lenOf], fun k hk => ?_⟩⟩
    have hcell : ∀ a, w'.cell? a = w.cell? a := fun a => by simp [World.cell?, hw']
    have hks : k * s ≤ m * s := Nat.mul_le_mul_right _ hk
    have hlc := run_loadCells_list (P := P) (w := w') (l.at off) (xs.take (k * s)) (fun j v hv => by
      rw [hcell]
      rw [List.getElem?_take] at hv
      split at hv
      · exact h3 j v hv
      · cases hv)
    have hlen : (xs.take (k * s)).length = k * s := by rw [List.length_take, h1]; omega
    rw [hlen] at hlc
    simpa [Builtin.firstCells] using hlc

theorem notInt {d : TypeDesc} (h : ∀ k, d ≠ .int k) : (match d with | .int _ => true | _ => false) = false := by
  cases d <;> first | rfl | exact absurd rfl (h _)

/-- Append, where there is no room. -/
theorem append_grow {t xt ty el : TypeId} {ts : Array TypeId} {ei : TI} {jd : TypeDesc} (hT : TIok P el ei) (ht0 : ts[0]? = some t) (ht1 : ts[1]? = some xt) (hut : P.underlying t = some (.slice el)) (hux : P.underlying xt = some jd) (hjd : ∀ k, jd ≠ .int k)
    {base : Option Addr} {sLen sCap m : Nat} {x : Value} {olds news : List Value} (hold : ∀ w' : World, w'.heap = w.heap → (Builtin.firstCells ei.size sLen (.slice base sLen sCap)).run P w' = .ok olds.toArray w')
    (hsrc : Src P w ei.size x m news) (hnl : news.length = m * ei.size) (hg : sCap < sLen + m) (hle : sLen + m ≤ 1048576) (hby : ei.bytes ≤ 1048576) :
    ∃ cap rest w', (Builtin.append_ ts ty #[.slice base sLen sCap, x]).run P w = .ok (.slice (some ⟨w.heap.size, 0, none⟩) (sLen + m) cap) w' ∧ sLen + m ≤ cap ∧
      w'.heap = w.heap.push (.cells (olds ++ news ++ rest).toArray el) ∧ rest.length = (cap - (sLen + m)) * ei.size ∧ Kpt w w' := by
  obtain ⟨ti, z, g1, g2, g3, g4, g5, g6, g7, _⟩ := hT.info
  obtain ⟨s1, _⟩ := hsrc w rfl
  have s2 := (hsrc w.drew rfl).2 m (Nat.le_refl _)
  rw [List.take_of_length_le (by omega)] at s2
  have s3 := hold w.drew rfl
  have hfit : Builtin.nextslicecap (sLen + m) sCap * ti.bytes ≤ 281474976710656 := by
    have h1 := nextslicecap_le hg
    have h2 : Builtin.nextslicecap (sLen + m) sCap * ti.bytes ≤ (2 * (sLen + m)) * ti.bytes := Nat.mul_le_mul_right _ h1
    have h3 : (2 * (sLen + m)) * ti.bytes ≤ 2097152 * 1048576 := Nat.mul_le_mul (by omega) (by omega)
    omega
  have hn : ¬ (sLen + m ≤ sCap) := by omega
  have h63' : ¬ (9223372036854775807 < ((sLen : Int) + (m : Int))) := by omega
  have h48' : ¬ (281474976710656 < Builtin.nextslicecap (sLen + m) sCap * ti.bytes) := by omega
  have hmi := notInt hjd
  refine ⟨grownCap w (sLen + m) sCap el, (Builtin.zeroCells z.cells (grownCap w (sLen + m) sCap el - (sLen + m))).toList,
    w.drew.alloc (.cells (olds ++ news ++ (Builtin.zeroCells z.cells (grownCap w (sLen + m) sCap el - (sLen + m))).toList).toArray el), ?_, ?_, ?_, ?_⟩
  rotate_left
  · simp [grownCap, Question.cut]
  · rfl
  · refine ⟨by simp [Builtin.zeroCells, g7], rfl, rfl, rfl⟩
  · have hszr := run_sizeOf (P := P) (w := w) hT
    simp only [Builtin.append_, ht0, ht1]
    simp only [List.getElem?_toArray, List.getElem?_cons_zero, List.getElem?_cons_succ, Sem.run_bind, run_underlying hut, run_underlying hux, Result.andThen_ok, hszr, Sem.run_pure]
    have hti : ∀ w' : World, (typeInfo el).run P w' = .ok ti w' := fun w' => run_typeInfo g1
    have hzv : ∀ w' : World, (zeroValue el).run P w' = .ok z w' := fun w' => by simp [zeroValue, hti, g5]
    simp [s1, hn, h63', h48', Question.forced, s2, s3, hti, hzv, newRow, grownCap]
    simp only [Builtin.zeroCells]
    congr 2
    apply Array.ext'
    simp

/-- Append, where there is room. -/
theorem append_fits {t xt ty el : TypeId} {ts : Array TypeId} {ei : TI} {jd : TypeDesc} (hT : TIok P el ei) (ht0 : ts[0]? = some t) (ht1 : ts[1]? = some xt) (hut : P.underlying t = some (.slice el)) (hux : P.underlying xt = some jd) (hjd : ∀ k, jd ≠ .int k)
    {a : Addr} {sLen sCap m : Nat} {x : Value} {news : List Value}
    (hsrc : Src P w ei.size x m news) (hnl : news.length = m * ei.size) (hg : sLen + m ≤ sCap) {w' : World} (hst : (storeCells (a.add (sLen * ei.size)) news).run P w = .ok () w') :
    (Builtin.append_ ts ty #[.slice (some a) sLen sCap, x]).run P w = .ok (.slice (some a) (sLen + m) sCap) w' := by
  obtain ⟨s1, s2⟩ := hsrc w rfl
  have s2 := s2 m (Nat.le_refl _)
  rw [List.take_of_length_le (by omega)] at s2
  have hszr := run_sizeOf (P := P) (w := w) hT
  simp only [Builtin.append_, ht0, ht1]
  simp only [List.getElem?_toArray, List.getElem?_cons_zero, List.getElem?_cons_succ, Sem.run_bind, run_underlying hut, run_underlying hux, Result.andThen_ok, hszr, Sem.run_pure]
  simp [s1, hg, s2, hst]

theorem append_ok (ok : EnvOK P E) (r : Rel E.nG ρ h w) {t xt ty el : TypeId} {ts : Array TypeId} {jd : TypeDesc} (ht0 : ts[0]? = some t) (ht1 : ts[1]? = some xt) (hut : P.underlying t = some (.slice el)) (hux : P.underlying xt = some jd) (hjd : ∀ k, jd ≠ .int k)
    {s v : AV} {s' x : Value} {more : List AV} {m sz : Nat} {news : List Value} {h' : Heap} (hs : R ρ s s') (hsz : sizeT E el = some sz) (hsrc : Src P w sz x m news) (hnl : news.length = m * sz) (hmr : RL ρ more news)
    (hv : appendA E h el s more m = some (v, h')) :
    ∃ ρ' y w', (Builtin.append_ ts ty #[s', x]).run P w = .ok y w' ∧ R ρ' v y ∧ Rel E.nG ρ' h' w' ∧ Ext ρ h w ρ' h' w' := by
  unfold appendA at hv
  split at hv
  · cases hv
  · rename_i ei hei
    have hT := ok.T _ _ hei
    have hsz' : sz = ei.size := by
      unfold sizeT at hsz
      rw [hei] at hsz
      simpa using hsz.symm
    subst hsz'
    have hml := RL_length hmr
    split at hv
    · cases hv
    · rename_i k hk
      rw [hk] at hnl hsrc
      -- a new row
      have grow : ∀ {base : Option Addr} {sLen sCap : Nat} {olds : List Value} {old : List AV} {h1 : Heap}, s' = .slice base sLen sCap →
          (∀ w' : World, w'.heap = w.heap → (Builtin.firstCells (k + 1) sLen (.slice base sLen sCap)).run P w' = .ok olds.toArray w') → olds.length = sLen * (k + 1) → RL ρ old olds →
          sCap < sLen + m → sLen + m ≤ 1048576 → ei.bytes ≤ 1048576 → h1.next = h.next → Rel E.nG ρ h1 w → Ext ρ h w ρ h1 w →
          ∃ ρ' y w', (Builtin.append_ ts ty #[s', x]).run P w = .ok y w' ∧ R ρ' (.slc h1.next 0 (sLen + m) none) y ∧ Rel E.nG ρ' (h1.new (rowObj (old ++ more) el (k + 1) true)) w' ∧
            Ext ρ h w ρ' (h1.new (rowObj (old ++ more) el (k + 1) true)) w' := by
        intro base sLen sCap olds old h1 hse hold hol hor hlt hle hby hnx r1 x1
        subst hse
        obtain ⟨cap, rest, w', a1, a2, a3, a4, a5⟩ := append_grow (ty := ty) hT ht0 ht1 hut hux hjd (base := base) (sLen := sLen) (sCap := sCap) (by rw [hk]; exact hold) (by rw [hk]; exact hsrc) (by rw [hk]; exact hnl) hlt hle hby
        rw [hk] at a4
        have hsize : (olds ++ news ++ rest).length = cap * (k + 1) := by
          simp only [List.length_append, hol, hnl, a4]
          rw [← Nat.add_mul, ← Nat.add_mul]
          congr 1
          omega
        have hb : ∀ b, b < w.heap.size → w'.heap[b]? = w.heap[b]? := by
          intro b hb
          rw [a3, Array.getElem?_push, if_neg (by omega)]
        have hnew : w'.heap[w.heap.size]? = some (.cells (olds ++ news ++ rest).toArray el (0, 0)) := by
          rw [a3, Array.getElem?_push, if_pos rfl]
        have hsz1 : w'.heap.size = w.heap.size + 1 := by rw [a3]; simp
        have hol' := RL_length hor
        have hOR : ∀ ρ', ρ.le ρ' → OR ρ' ⟨w.heap.size, 0, cap * (k + 1), k + 1⟩ (rowObj (old ++ more) el (k + 1) true) (some (.cells (olds ++ news ++ rest).toArray el (0, 0))) := by
          intro ρ' hle'
          refine OR_row rfl (by simpa using hsize.symm) rfl (by simp [hol', hml]) (by simp) ?_
          have : (olds ++ news ++ rest).take (old ++ more).length = olds ++ news := by
            rw [List.take_append_of_le_length (by simp [hol', hml])]
            exact List.take_of_length_le (by simp [hol', hml])
          rw [List.toList_toArray, this]
          exact RL_append (RL_mono hle' _ _ hor) (RL_mono hle' _ _ hmr)
        have hle' := Ren.le_put (ρ := ρ) (n := h1.next) ⟨w.heap.size, 0, cap * (k + 1), k + 1⟩ r1.none
        have r2 := r1.new (w' := w') (l := ⟨w.heap.size, 0, cap * (k + 1), k + 1⟩) (o := rowObj (old ++ more) el (k + 1) true) (fun n l' _ hn => hb _ (r1.lt n l' hn).2) (by omega) (.inl (Nat.le_refl _)) (by show w.heap.size < _; omega)
          (by show OR _ _ _ (w'.heap[w.heap.size]?); rw [hnew]; exact hOR _ hle')
        have x2 := r1.new_ext (w' := w') (l := ⟨w.heap.size, 0, cap * (k + 1), k + 1⟩) (o := rowObj (old ++ more) el (k + 1) true) (fun b h2 _ => hb b h2) (by omega) (Nat.le_refl _) a5
        refine ⟨_, _, w', a1, ?_, r2, Ext.trans r r1 x1 x2⟩
        simp only [R]
        refine ⟨_, Ren.put_same _ _ _, by show 0 < k + 1; omega, ?_, ?_⟩
        · show 0 + (sLen + m) * (k + 1) ≤ cap * (k + 1)
          rw [Nat.zero_add]
          exact Nat.mul_le_mul_right _ a2
        · show Value.slice (some ⟨w.heap.size, 0, none⟩) _ _ = .slice (some ⟨w.heap.size, 0 + 0, none⟩) _ _
          congr 1
          rw [Nat.sub_zero, Nat.mul_div_cancel _ (by omega)]
      split at hv
      · -- nil
        simp only [R] at hs
        split at hv
        · cases hv
          subst hs
          refine ⟨ρ, .slice none 0 0, w, ?_, by simp [R], r, Ext.refl _ _ _⟩
          obtain ⟨s1, s2⟩ := hsrc w rfl
          have s2 := s2 0 (Nat.le_refl _)
          have hszr := run_sizeOf (P := P) (w := w) hT
          simp only [Builtin.append_, ht0, ht1]
          simp only [List.getElem?_toArray, List.getElem?_cons_zero, List.getElem?_cons_succ, Sem.run_bind, run_underlying hut, run_underlying hux, Result.andThen_ok, hszr, Sem.run_pure, hk]
          simp [s1, s2]
        · rename_i m'
          split at hv
          · rename_i hb
            simp only [Bool.and_eq_true, Nat.ble_eq] at hb
            cases hv
            have := grow (base := none) (sLen := 0) (sCap := 0) (olds := []) (old := []) (h1 := h) hs (fun w' _ => by simp [Builtin.firstCells]) (by simp) (by simp [RL]) (by omega) (by omega) hb.2 rfl r (Ext.refl _ _ _)
            simpa using this
          · cases hv
      · -- a slice of a known capacity
        rename_i n off len c
        simp only [R] at hs
        obtain ⟨l, hl, hsl⟩ := hs
        split at hv
        · rename_i hle
          rw [Nat.ble_eq] at hle
          split at hv
          · rename_i h1 hw
            cases hv
            obtain ⟨w', b1, b2, b3⟩ := write_ok (P := P) r hl hmr hw
            refine ⟨ρ, .slice (some (l.at off)) (len + m) c, w', ?_, ?_, b2, b3⟩
            rotate_left
            · simp only [R]; exact ⟨l, hl, rfl⟩
            · rw [show s' = _ from hsl]
              refine append_fits hT ht0 ht1 hut hux hjd (by rw [hk]; exact hsrc) (by rw [hk]; exact hnl) hle ?_
              rw [hk, at_add]
              exact b1
          · cases hv
        · rename_i hle
          split at hv
          · rename_i old hb hrd
            simp only [Bool.and_eq_true, Nat.ble_eq] at hb
            cases hv
            obtain ⟨xs, c1, c2, c3⟩ := run_read r.q hl hrd
            refine grow (h1 := h) (olds := xs) hsl ?_ c1 c2 ?_ hb.1 hb.2 rfl r (Ext.refl _ _ _)
            · intro w' hw'
              have hcell : ∀ a, w'.cell? a = w.cell? a := fun a => by simp [World.cell?, hw']
              have hlc := run_loadCells_list (P := P) (w := w') (l.at off) xs (fun j v hv => by rw [hcell]; exact c3 j v hv)
              rw [c1] at hlc
              simpa [Builtin.firstCells] using hlc
            · have : ¬ len + m ≤ c := fun h => by rw [(by rw [Nat.ble_eq]; exact h : (len + m).ble c = true)] at hle; cases hle
              omega
          · cases hv
      · -- an open slice
        rename_i n off len
        simp only [R] at hs
        obtain ⟨l, hl, q1, q2, hsl⟩ := hs
        split at hv
        · rename_i t' size d el' s'' g ho
          split at hv
          · cases hv
          · rename_i hbeq
            simp only [Bool.and_eq_true, Nat.beq_eq] at hbeq
            obtain ⟨hbeq, hel⟩ := hbeq
            replace hel := hel.symm
            subst hel
            have hor := obj_cells r.q hl ho
            have hls : l.s = k + 1 := hor.1.trans hbeq
            split at hv
            · rename_i hle
              rw [Nat.ble_eq] at hle
              split at hv
              · rename_i h1 hw
                cases hv
                obtain ⟨w', b1, b2, b3⟩ := write_ok (P := P) r hl hmr hw
                have hfit : len + m ≤ (l.c - off) / l.s := by
                  rw [Nat.le_div_iff_mul_le q1, hls]
                  have := hor.2.1
                  omega
                refine ⟨ρ, .slice (some (l.at off)) (len + m) ((l.c - off) / l.s), w', ?_, ?_, b2, b3⟩
                rotate_left
                · simp only [R]
                  refine ⟨l, hl, q1, ?_, rfl⟩
                  rw [hls]
                  have := hor.2.1
                  omega
                · rw [hsl]
                  refine append_fits hT ht0 ht1 hut hux hjd (by rw [hk]; exact hsrc) (by rw [hk]; exact hnl) hfit ?_
                  rw [hk, at_add]
                  exact b1
              · cases hv
            · rename_i hle
              split at hv
              · rename_i old hb hrd
                simp only [Bool.and_eq_true, Nat.ble_eq] at hb
                obtain ⟨⟨hb1, hb2⟩, hb3⟩ := hb
                cases hv
                obtain ⟨_, p2, p3, c, fr, p4, p5, p6, p7⟩ := hor
                obtain ⟨xs, c1, c2, c3⟩ := readCells_ok p7 hrd
                have hnlt := (r.lt n l hl).1
                have hlive : live h n = true := live_iff.2 ⟨_, ho, by intro h; cases h⟩
                obtain ⟨r1, x1⟩ := r.kill hnlt
                have hxcell : ∀ (j : Nat) (u : Value), xs[j]? = some u → c[l.base + (off + j)]? = some u := by
                  intro j u hj
                  have : j < len * (k + 1) := by
                    rcases Nat.lt_or_ge j (len * (k + 1)) with h' | h'
                    · exact h'
                    · rw [List.getElem?_eq_none (by omega)] at hj; cases hj
                  rw [c3 j this, hj]
                by_cases hroom : len + m ≤ (l.c - off) / l.s
                · -- there is room
                  have hfit : (len + m) * (k + 1) ≤ l.c - off := by
                    rw [← hls]
                    exact (Nat.le_div_iff_mul_le q1).1 hroom
                  have hexp : (len + m) * (k + 1) = len * (k + 1) + m * (k + 1) := Nat.add_mul _ _ _
                  have hmk : news.length = m * (k + 1) := hnl
                  have hlk : len * l.s = len * (k + 1) := by rw [hls]
                  obtain ⟨w', c', g1, g2, g3, g4, g5, g6, g7⟩ := run_storeCells (P := P) (xs := news) (o := l.base + (off + len * (k + 1))) (i := 0) p4 (fun j hj => by
                    exact ⟨by omega, notFrozen p6 (by omega)⟩) (simples_one hmr hb3)
                  have hrun : (storeCells ((l.at off).add (len * (k + 1))) news).run P w = .ok () w' := by rw [at_add]; exact g1
                  have hOR : ∀ ρ', ρ.le ρ' → OR ρ' ⟨l.b, l.base + off, l.c - off, k + 1⟩ (rowObj (old ++ more) el (k + 1) true) w'.heap[l.b]? := by
                    intro ρ' hle'
                    have hol' := RL_length c2
                    refine ⟨rfl, by simp [hol', hml, c1, hnl]; omega, by simp, c', fr, g2, by rw [g5, p5]; show _ = l.base + off + (l.c - off); omega, ?_, ?_⟩
                    · show fr.1 = fr.2 ∨ l.base + off + (l.c - off) ≤ fr.1
                      rcases p6 with p6 | p6
                      · exact .inl p6
                      · exact .inr (by omega)
                    · intro i u hu
                      have h1 := row_cell hu
                      have hlt := cellA_lt hu
                      simp only [List.length_append, hol', hml, c1, hnl] at hlt
                      show ∃ x, c'[l.base + off + i]? = some x ∧ _
                      rw [g6]
                      have hRL : RL ρ' (old ++ more) (xs ++ news) := RL_append (RL_mono hle' _ _ c2) (RL_mono hle' _ _ hmr)
                      obtain ⟨x, hx1, hx2⟩ := RL_get hRL (by rw [lget_eq]; exact h1)
                      refine ⟨x, ?_, hx2⟩
                      rw [List.getElem?_append] at hx1
                      by_cases hi : i < xs.length
                      · rw [if_pos hi] at hx1
                        rw [if_neg (by omega), show l.base + off + i = l.base + (off + i) from by omega]
                        exact hxcell i x hx1
                      · rw [if_neg hi] at hx1
                        rw [if_pos (by omega), show l.base + off + i - (l.base + (off + len * (k + 1)) + 0) = i - xs.length from by omega]
                        exact hx1
                  have hnext : (h.put n .dead).next = h.next := rfl
                  have hle' := Ren.le_put (ρ := ρ) (n := (h.put n .dead).next) ⟨l.b, l.base + off, l.c - off, k + 1⟩ r1.none
                  have hdead : ∀ n0 l0, live (h.put n .dead) n0 = true → ρ n0 = some l0 → l0.b ≠ l.b := by
                    intro n0 l0 hl0 hn0 hbb
                    obtain ⟨o', h1, h2⟩ := live_iff.1 hl0
                    rw [obj_put] at h1
                    by_cases e : n0 = n
                    · rw [if_pos e] at h1; cases h1; exact h2 rfl
                    · rw [if_neg e] at h1
                      exact e (r.inj n0 n l0 l (live_iff.2 ⟨o', h1, h2⟩) hlive hn0 hl hbb)
                  have r2 := r1.new (w' := w') (l := ⟨l.b, l.base + off, l.c - off, k + 1⟩) (o := rowObj (old ++ more) el (k + 1) true) (fun n0 l0 h1 h2 => g4 _ (hdead n0 l0 h1 h2)) (by omega) (.inr hdead)
                    (by show l.b < _; rw [g3]; exact (r.lt n l hl).2) (hOR _ hle')
                  have x2 : Ext ρ h w (ρ.put (h.put n .dead).next ⟨l.b, l.base + off, l.c - off, k + 1⟩) ((h.put n .dead).new (rowObj (old ++ more) el (k + 1) true)) w' := by
                    refine ⟨hle', Nat.le_succ _, ?_, ?_, by omega, ?_, g7⟩
                    · intro m0 hm0 hl0
                      obtain ⟨o', h1, h2⟩ := live_iff.1 hl0
                      rw [obj_new] at h1
                      have : m0 ≠ (h.put n .dead).next := by rw [hnext]; omega
                      rw [if_neg this] at h1
                      exact x1.lives m0 hm0 (live_iff.2 ⟨o', h1, h2⟩)
                    · intro b hb hno
                      exact g4 b fun e => hno n l hlive hl e.symm
                    · intro n0 l0 h1 h2
                      by_cases e : n0 = (h.put n .dead).next
                      · subst e
                        rw [Ren.put_same] at h1
                        cases h1
                        exact ⟨Nat.le_refl _, .inr ⟨n, l, hlive, hl, rfl⟩⟩
                      · rw [Ren.put_other _ _ e, h2] at h1
                        cases h1
                  refine ⟨_, .slice (some ⟨l.b, l.base + off + 0, none⟩) (len + m) ((l.c - off - 0) / (k + 1)), w', ?_, ?_, r2, x2⟩
                  rotate_left
                  · simp only [R]
                    refine ⟨_, Ren.put_same _ _ _, by show 0 < k + 1; omega, ?_, rfl⟩
                    show 0 + (len + m) * (k + 1) ≤ l.c - off
                    omega
                  · rw [hsl]
                    have := append_fits (ty := ty) hT ht0 ht1 hut hux hjd (a := l.at off) (sLen := len) (sCap := (l.c - off) / l.s) (by rw [hk]; exact hsrc) (by rw [hk]; exact hnl) hroom (by rw [hk]; exact hrun)
                    rw [this]
                    show Result.ok (Value.slice (some ⟨l.b, l.base + off, none⟩) _ ((l.c - off) / l.s)) w' = .ok (.slice (some ⟨l.b, l.base + off + 0, none⟩) _ ((l.c - off - 0) / (k + 1))) w'
                    rw [hls]
                    rfl
                · refine grow (h1 := h.put n .dead) (olds := xs) hsl ?_ c1 c2 (by omega) hb1 hb2 rfl r1 x1
                  intro w' hw'
                  have hcell : ∀ a, w'.cell? a = w.cell? a := fun a => by simp [World.cell?, hw']
                  have hlc := run_loadCells_list (P := P) (w := w') (l.at off) xs (fun j v hv => by
                    rw [hcell, at_add, Loc.at, cell_of p4]
                    exact hxcell j v hv)
                  rw [c1] at hlc
                  simpa [Builtin.firstCells] using hlc
              · cases hv
        · cases hv
      · cases hv
end
end Go.Eng

/- The engine: maps that are written. -/
namespace Go.Eng
section
variable {P : Program} {E : Env} {ρ : Ren} {h : Heap} {w : World} {tm : Tr AV} {e : Operand → Value}

theorem scEq_eq {a b : Value} (h : scEq a b = true) : a = b := by
  unfold scEq at h
  split at h
  · simp only [beq_iff_eq] at h; rw [h]
  · simp only [Bool.and_eq_true, decide_eq_true_eq] at h; rw [h.1, h.2]
  · simp only [Bool.and_eq_true, decide_eq_true_eq] at h; rw [h.1, h.2]
  · simp only [Bool.and_eq_true, decide_eq_true_eq] at h; rw [h.1.1, h.1.2, h.2]
  · rfl
  · simp only [Bool.and_eq_true, Nat.beq_eq] at h; rw [h.1, h.2]
  · rfl
  · rfl
  · rfl
  · cases h

theorem optNatEq_eq {a b : Option Nat} (h : optNatEq a b = true) : a = b := by
  unfold optNatEq at h
  split at h
  · rfl
  · rw [Nat.beq_eq] at h; rw [h]
  · cases h

mutual
theorem avEq_eq : ∀ (a b : AV), avEq a b = true → a = b
  | .sc a, b, h => by cases b <;> first | (simp [avEq] at h; done) | (simp only [avEq] at h; rw [scEq_eq h])
  | .str a, b, h => by cases b <;> first | (simp [avEq] at h; done) | (simp only [avEq] at h; rw [natsEq_iff.1 h])
  | .ptr a c, b, h => by cases b <;> first | (simp [avEq] at h; done) | (simp only [avEq, Bool.and_eq_true, Nat.beq_eq] at h; rw [h.1, h.2])
  | .slc a x c d, b, h => by cases b <;> first | (simp [avEq] at h; done) | (simp only [avEq, Bool.and_eq_true, Nat.beq_eq] at h; rw [h.1.1.1, h.1.1.2, h.1.2, optNatEq_eq h.2])
  | .emp, b, h => by cases b <;> first | (simp [avEq] at h; done) | rfl
  | .mp a, b, h => by cases b <;> first | (simp [avEq] at h; done) | (simp only [avEq, Nat.beq_eq] at h; rw [h])
  | .fn f a c, b, h => by cases b <;> first | (simp [avEq] at h; done) | (simp only [avEq, Bool.and_eq_true, decide_eq_true_eq] at h; rw [h.1.1, avsEq_eq _ _ h.1.2, avsEq_eq _ _ h.2])
  | .yld a, b, h => by cases b <;> first | (simp [avEq] at h; done) | (simp only [avEq, Nat.beq_eq] at h; rw [h])
  | .ifc t v, b, h => by cases b <;> first | (simp [avEq] at h; done) | (simp only [avEq, Bool.and_eq_true, Nat.beq_eq] at h; rw [h.1, avEq_eq _ _ h.2])
  | .agg a, b, h => by cases b <;> first | (simp [avEq] at h; done) | (simp only [avEq] at h; rw [avsEq_eq _ _ h])
  | .tup a, b, h => by cases b <;> first | (simp [avEq] at h; done) | (simp only [avEq] at h; rw [avsEq_eq _ _ h])
  | .any, b, h => by cases b <;> simp [avEq] at h
theorem avsEq_eq : ∀ (a b : List AV), avsEq a b = true → a = b
  | [], b, h => by cases b <;> first | rfl | simp [avsEq] at h
  | a :: l, b, h => by cases b <;> first | (simp [avsEq] at h; done) | (simp only [avsEq, Bool.and_eq_true] at h; rw [avEq_eq _ _ h.1, avsEq_eq _ _ h.2])
end

theorem mapPut_ok (ok : EnvOK P E) {kt : TypeId} {k v : AV} {k' v' : Value} {clock c2 : Nat} (hk : R ρ k k') (hv : R ρ v v') : ∀ {es es2 : List MapE} {es' : List MapEntry} {i : Nat}, ER ρ es es' → mapPut E h kt k v clock es = some (es2, c2) →
    (c2 = clock + 1 ∧ (Instr.findAsking kt k' es' i).run P w = .ok none w ∧ ER ρ es2 (es' ++ [⟨k', v', clock⟩])) ∨
    ∃ n x, c2 = clock ∧ (Instr.findAsking kt k' es' i).run P w = .ok (some (i + n, x.val)) w ∧ es'[n]? = some x ∧ R ρ k x.key ∧ ∀ k2, R ρ k k2 → ER ρ es2 (es'.modify n fun e => { e with key := k2, val := v' })
  | [], es2, es', i, he, hf => by
    simp only [ER] at he
    subst he
    simp only [mapPut, Option.some.injEq, Prod.mk.injEq] at hf
    obtain ⟨rfl, rfl⟩ := hf
    refine .inl ⟨rfl, by simp [Instr.findAsking], ?_⟩
    exact ⟨_, _, rfl, hk, hv, rfl, rfl⟩
  | a :: as, es2, es', i, he, hf => by
    obtain ⟨b, bs, rfl, h1, h2, h3, h4⟩ := he
    simp only [mapPut] at hf
    split at hf
    · rename_i heq
      split at hf
      · rename_i hav
        simp only [Option.some.injEq, Prod.mk.injEq] at hf
        obtain ⟨rfl, rfl⟩ := hf
        have := aeq_sound (w := w) ok 10000 hk h1 heq
        have hke := avEq_eq _ _ hav
        refine .inr ⟨0, b, rfl, by simp [Instr.findAsking, Op.equal, Op.maxDepth, this], rfl, by rw [hke]; exact h1, ?_⟩
        intro k2 hk2
        exact ⟨_, _, rfl, hk2, hv, h3, h4⟩
      · cases hf
    · rename_i heq
      have := aeq_sound (w := w) ok 10000 hk h1 heq
      split at hf
      · rename_i es3 c3 hp
        simp only [Option.some.injEq, Prod.mk.injEq] at hf
        obtain ⟨rfl, rfl⟩ := hf
        rcases mapPut_ok ok hk hv (i := i + 1) h4 hp with ⟨h5, h6, h7⟩ | ⟨n, x, h5, h6, h7, h8, h9⟩
        · refine .inl ⟨h5, by simp [Instr.findAsking, Op.equal, Op.maxDepth, this, h6], ?_⟩
          exact ⟨_, _, rfl, h1, h2, h3, h7⟩
        · have e1 : i + 1 + n = i + (n + 1) := by omega
          refine .inr ⟨n + 1, x, h5, by simp [Instr.findAsking, Op.equal, Op.maxDepth, this, h6, e1], by simpa using h7, h8, ?_⟩
          intro k2 hk2
          exact ⟨_, _, rfl, h1, h2, h3, h9 k2 hk2⟩
      · cases hf
    · cases hf

theorem mapDel_ok (ok : EnvOK P E) {kt : TypeId} {k : AV} {k' : Value} (hk : R ρ k k') : ∀ {es es2 : List MapE} {es' : List MapEntry} {i : Nat}, ER ρ es es' → mapDel E h kt k es = some es2 →
    ((Instr.findAsking kt k' es' i).run P w = .ok none w ∧ ER ρ es2 es') ∨
    ∃ n x, (Instr.findAsking kt k' es' i).run P w = .ok (some (i + n, x.val)) w ∧ es'[n]? = some x ∧ ER ρ es2 (es'.eraseIdx n)
  | [], es2, es', i, he, hf => by
    simp only [ER] at he
    subst he
    simp only [mapDel, Option.some.injEq] at hf
    subst hf
    exact .inl ⟨by simp [Instr.findAsking], rfl⟩
  | a :: as, es2, es', i, he, hf => by
    obtain ⟨b, bs, rfl, h1, h2, h3, h4⟩ := he
    simp only [mapDel] at hf
    split at hf
    · rename_i heq
      simp only [Option.some.injEq] at hf
      subst hf
      have := aeq_sound (w := w) ok 10000 hk h1 heq
      exact .inr ⟨0, b, by simp [Instr.findAsking, Op.equal, Op.maxDepth, this], rfl, h4⟩
    · rename_i heq
      have := aeq_sound (w := w) ok 10000 hk h1 heq
      split at hf
      · rename_i es3 hp
        simp only [Option.some.injEq] at hf
        subst hf
        rcases mapDel_ok ok hk (i := i + 1) h4 hp with ⟨h6, h7⟩ | ⟨n, x, h6, h7, h8⟩
        · refine .inl ⟨by simp [Instr.findAsking, Op.equal, Op.maxDepth, this, h6], ?_⟩
          exact ⟨_, _, rfl, h1, h2, h3, h7⟩
        · have e1 : i + 1 + n = i + (n + 1) := by omega
          refine .inr ⟨n + 1, x, by simp [Instr.findAsking, Op.equal, Op.maxDepth, this, h6, e1], by simpa using h7, ?_⟩
          exact ⟨_, _, rfl, h1, h2, h3, h8⟩
      · cases hf
    · cases hf

theorem entryPut_ok {v : AV} {v' : Value} {b : Nat} (hv : R ρ v v') : ∀ {es es2 : List MapE} {es' : List MapEntry}, ER ρ es es' → entryPut b v es = some es2 →
    ∃ n, es'.findIdx? (fun e => (e.born : Int) == (b : Int)) = some n ∧ ER ρ es2 (es'.modify n fun e => { e with val := v' })
  | [], es2, es', he, hf => by simp [entryPut] at hf
  | a :: as, es2, es', he, hf => by
    obtain ⟨c, bs, rfl, h1, h2, h3, h4⟩ := he
    simp only [entryPut] at hf
    split at hf
    · rename_i heq
      rw [Nat.beq_eq] at heq
      simp only [Option.some.injEq] at hf
      subst hf
      refine ⟨0, ?_, ?_⟩
      · simp [List.findIdx?_cons, h3, heq]
      · exact ⟨_, _, rfl, h1, hv, h3, h4⟩
    · rename_i heq
      have hne : a.born ≠ b := by
        intro hh
        rw [← Nat.beq_eq] at hh
        rw [hh] at heq
        cases heq
      split at hf
      · rename_i es3 hp
        simp only [Option.some.injEq] at hf
        subst hf
        obtain ⟨n, h5, h6⟩ := entryPut_ok hv h4 hp
        refine ⟨n + 1, ?_, ?_⟩
        · have : ¬ ((a.born : Int) = (b : Int)) := by omega
          simp [List.findIdx?_cons, h3, this, h5]
        · exact ⟨_, _, rfl, h1, h2, h3, h6⟩
      · cases hf

theorem ER_keep : ∀ {es : List MapE} {es' : List MapEntry} {n : Nat} {m : MapE} {f : MapEntry → MapEntry}, ER ρ es es' → es[n]? = some m → (∀ x, es'[n]? = some x → R ρ m.key (f x).key ∧ R ρ m.val (f x).val ∧ (f x).born = m.born) → ER ρ es (es'.modify n f)
  | [], es', n, m, f, he, hm, _ => by simp at hm
  | a :: as, es', n, m, f, he, hm, hf => by
    obtain ⟨b, bs, rfl, h1, h2, h3, h4⟩ := he
    cases n with
    | zero =>
      simp only [List.getElem?_cons_zero, Option.some.injEq] at hm
      subst hm
      obtain ⟨g1, g2, g3⟩ := hf b rfl
      exact ⟨_, _, rfl, g1, g2, g3, h4⟩
    | succ n => exact ⟨_, _, rfl, h1, h2, h3, ER_keep h4 (by simpa using hm) (fun x hx => hf x (by simpa using hx))⟩

theorem ER_push {m : MapE} {x : MapEntry} (h1 : R ρ m.key x.key) (h2 : R ρ m.val x.val) (h3 : x.born = m.born) : ∀ {es : List MapE} {es' : List MapEntry}, ER ρ es es' → ER ρ (es ++ [m]) (es' ++ [x])
  | [], es', he => by
    simp only [ER] at he
    subst he
    exact ⟨_, _, rfl, h1, h2, h3, rfl⟩
  | a :: as, es', he => by
    obtain ⟨b, bs, rfl, g1, g2, g3, g4⟩ := he
    exact ⟨_, _, rfl, g1, g2, g3, ER_push h1 h2 h3 g4⟩

/-- The key that stays. -/
theorem keyStays {k : AV} {old new : Value} (h1 : R ρ k old) (h2 : R ρ k new) : ∃ k2 w', (Instr.keyThatStays old new).run P w = .ok k2 w' ∧ R ρ k k2 ∧ w'.heap = w.heap ∧ Kpt w w' := by
  unfold Instr.keyThatStays
  split
  · exact ⟨new, w, rfl, h2, rfl, rfl, rfl, rfl⟩
  · simp only [Sem.run_bind, run_choose]
    split
    · exact ⟨new, w, by simp, h2, rfl, rfl, rfl, rfl⟩
    · simp only [Result.andThen_ok, Sem.run_pure]
      split
      · exact ⟨new, _, rfl, h2, rfl, rfl, rfl, rfl⟩
      · exact ⟨old, _, rfl, h1, rfl, rfl, rfl, rfl⟩

/-- A map's entries are set anew. -/
theorem put_map (r : Rel E.nG ρ h w) {n clock c2 : Nat} {es es2 : List MapE} {l : Loc} {es' : Array MapEntry} {w1 : World} (hl : ρ n = some l) (ho : h.obj n = some (.map es clock)) (hw1 : w1.heap = w.heap) (he : ER ρ es2 es'.toList) (hk1 : Kpt w w1 := by exact ⟨rfl, rfl, rfl⟩) :
    ∃ w', (setObj l.b (.map es' c2)).run P w1 = .ok () w' ∧ Rel E.nG ρ (h.put n (.map es2 c2)) w' ∧ Ext ρ h w ρ (h.put n (.map es2 c2)) w' := by
  obtain ⟨es0, _, _, hb⟩ := run_getMap (P := P) r.q hl ho
  have hlt := (r.lt n l hl).2
  have hlive : live h n = true := live_iff.2 ⟨_, ho, by intro h; cases h⟩
  have hin : w1.heap[l.b]? = some (.map es0 clock) := by rw [hw1]; exact hb
  refine ⟨{ w1 with heap := w1.heap.setIfInBounds l.b (.map es' c2) }, by simp [setObj, Sem.run, hin], ?_⟩
  refine r.put hlive hl ?_ (by simp [hw1]) ?_ (hk1.trans ⟨rfl, rfl, rfl⟩)
  · intro b hne
    rw [← hw1]
    exact Array.getElem?_setIfInBounds_ne fun h => hne h.symm
  · have : (w1.heap.setIfInBounds l.b (.map es' c2))[l.b]? = some (.map es' c2) := by
      rw [Array.getElem?_setIfInBounds_self_of_lt]
      rw [hw1]
      exact hlt
    show OR ρ l (.map es2 c2) ((w1.heap.setIfInBounds l.b (.map es' c2))[l.b]?)
    rw [this]
    exact ⟨es', rfl, he⟩
end
end Go.Eng

/- The engine: builtins that write. -/
namespace Go.Eng
section
variable {P : Program} {E : Env} {ρ : Ren} {h : Heap} {w : World} {tm : Tr AV} {e : Operand → Value}

theorem run_v' {s : Sem Value} {y : Value} {w' : World} (hs : s.run P w = .ok y w') : ((do pure (Next.value (← s))) : Sem Next).run P w = .ok (.value y) w' := by
  simp only [Sem.run_bind, hs, Result.andThen_ok, Sem.run_pure]

theorem slcV_at {l : Loc} {off len : Nat} {cap : Option Nat} {x : Value} (h : slcV l off len cap x) : ∃ c, x = .slice (some (l.at off)) len c := by
  cases cap with
  | none => exact ⟨_, h.2.2⟩
  | some k => exact ⟨_, h⟩

theorem liesAt_row (P : Program) {el s count off n : Nat} (hc : P.cellsOf el = s + 1) (hoff : off % (s + 1) = 0) (hlt : off / (s + 1) + n ≤ count) :
    liesAt P P.depth el count off el n = true := by
  have hd : ∃ n, P.depth = n + 1 + 1 := ⟨2 * (P.types.size + Made.depth), rfl⟩
  obtain ⟨d, hd⟩ := hd
  have h1 : rowAt P (sameLayout P P.depth · el) P.depth el count off n = true := by
    rw [hd]
    unfold rowAt
    simp [hc, hoff, sameLayout]
    omega
  rw [hd] at h1 ⊢
  unfold liesAt
  rw [hd]
  simp [h1]

theorem run_loadBytes : ∀ (bs : List Nat) (a : Addr) (acc : ByteArray), (∀ n ∈ bs, n < 256) → (∀ (j : Nat) (v : Value), (bs.map fun (n : Nat) => Value.int .u8 (n : Int))[j]? = some v → w.cell? (a.add j) = some v) →
    (loadBytes a acc bs.length).run P w = .ok (acc ++ toB bs) w
  | [], a, acc, _, _ => by
    simp only [List.length_nil, loadBytes, Sem.run_pure]
    congr 1
    apply ByteArray.ext
    simp [toB]
  | n :: bs, a, acc, hb, hc => by
    have h0 := hc 0 (.int .u8 (n : Int)) rfl
    rw [show a.add 0 = a from by simp [Addr.add]] at h0
    have ih := run_loadBytes bs (a.add 1) (acc.push (n : Int).toNat.toUInt8) (fun m hm => hb m (List.mem_cons_of_mem _ hm)) (fun j v hj => by
      have := hc (j + 1) v (by simpa using hj)
      have e : (a.add 1).add j = a.add (j + 1) := by
        unfold Addr.add
        by_cases hj0 : j = 0 <;> simp [hj0]
        · omega
      rw [e]
      exact this)
    simp only [List.length_cons, loadBytes, Sem.run_bind, run_load, h0, Result.andThen_ok, ih]
    congr 1
    apply ByteArray.ext
    simp [toB, ByteArray.push]

theorem readCells_in {t : Tr AV} {size : Nat} {d : List AV} : ∀ {k off : Nat} {vs : List AV}, readCells t size d k off = some vs → 0 < k → off + k ≤ size
  | 0, off, vs, _, h => by omega
  | k + 1, off, vs, h, _ => by
    simp only [readCells] at h
    split at h
    · cases h
    · rename_i v hv
      have := cellA_lt hv
      split at h
      · cases h
      · rename_i vs' hvs
        cases k with
        | zero => omega
        | succ k => have := readCells_in hvs (by omega); omega

theorem run_asInt (k : IntKind) (n : Int) : (asInt (.int k n)).run P w = .ok n w := rfl

theorem size_eqs {w w' : World} (h : w'.heap = w.heap) : w'.heap.size = w.heap.size := by rw [h]

set_option maxHeartbeats 1000000 in
theorem builtinW_ok (ok : EnvOK P E) (r : Rel E.nG ρ h w) {b : Builtin} {ts : Array TypeId} {ty : TypeId} {cs : Array Bool} {args : List AV} {args' : Array Value} {v : AV} {h' : Heap}
    (ha : RL ρ args args'.toList) (hv : builtinW E h b ts args = some (v, h')) :
    ∃ ρ' y w', (builtin b ts ty cs args').run P w = .ok (.value y) w' ∧ R ρ' v y ∧ Rel E.nG ρ' h' w' ∧ Ext ρ h w ρ' h' w' := by
  have fin : ∀ {s : Sem Value}, (∃ ρ' y w', s.run P w = .ok y w' ∧ R ρ' v y ∧ Rel E.nG ρ' h' w' ∧ Ext ρ h w ρ' h' w') →
      (∃ ρ' y w', ((do pure (Next.value (← s))) : Sem Next).run P w = .ok (.value y) w' ∧ R ρ' v y ∧ Rel E.nG ρ' h' w' ∧ Ext ρ h w ρ' h' w') :=
    fun ⟨ρ', y, w', h1, h2⟩ => ⟨ρ', y, w', run_v' h1, h2⟩
  unfold builtinW at hv
  split at hv
  · -- append
    rename_i s x
    obtain ⟨s', x', rfl, hs, hx⟩ := RL_two ha
    refine fin (s := Builtin.append_ ts ty #[s', x']) ?_
    split at hv
    · rename_i t xt ht0 ht1
      split at hv
      · rename_i i j hi hj
        have hu0 := (ok.T _ _ hi).und
        have hu1 := (ok.T _ _ hj).und
        split at hv
        · cases hv
        · rename_i el hd hnot
          rw [hd] at hu0
          split at hv
          · rename_i sz hsz
            split at hv
            · rename_i cs m hsrc
              obtain ⟨xs, g1, g2, g3⟩ := src_ok (P := P) r hx hsrc
              exact append_ok ok r ht0 ht1 hu0 hu1 (fun k hk => hnot k hk) hs hsz g3 g1 g2 hv
            · cases hv
          · cases hv
        · cases hv
      · cases hv
    · cases hv
  · -- copy
    rename_i d x
    obtain ⟨d', x', rfl, hd, hx⟩ := RL_two ha
    refine fin (s := Builtin.copy_ ts ty #[d', x']) ?_
    split at hv
    · rename_i t ht0
      split at hv
      · rename_i i hi
        have hu0 := (ok.T _ _ hi).und
        split at hv
        · rename_i el hde
          rw [hde] at hu0
          split at hv
          · rename_i sz hsz
            have hszr := fun (w : World) => sizeT_ok (w := w) ok hsz
            split at hv
            · rename_i cs m n off len cap hsrc
              obtain ⟨xs, g1, g2, g3⟩ := src_ok (P := P) r hx hsrc
              simp only [R] at hd
              obtain ⟨l, hl, hsl⟩ := hd
              obtain ⟨c, rfl⟩ := slcV_at hsl
              split at hv
              · rename_i h1 hw
                cases hv
                obtain ⟨w', k1, k2, k3⟩ := write_ok (P := P) r hl (RL_take _ g2) hw
                obtain ⟨g4, g5⟩ := g3 w rfl
                have g6 := g5 (min m len) (Nat.min_le_left _ _)
                refine ⟨ρ, goInt (min m len : Nat), w', ?_, by simp [R, goInt, vI], k2, k3⟩
                simp only [Builtin.copy_, ht0]
                simp only [List.getElem?_toArray, List.getElem?_cons_zero, List.getElem?_cons_succ, Sem.run_bind, run_underlying hu0, Result.andThen_ok, g4, hszr]
                show ((Builtin.firstCells sz (min m len) x').run P w).andThen _ = _
                rw [g6]
                simp only [Result.andThen_ok, k1, Sem.run_pure]
              · cases hv
            · rename_i cs m c hsrc
              cases hv
              obtain ⟨xs, g1, g2, g3⟩ := src_ok (P := P) r hx hsrc
              simp only [R] at hd
              subst hd
              obtain ⟨g4, g5⟩ := g3 w rfl
              have g6 := g5 (min m 0) (Nat.min_le_left _ _)
              refine ⟨ρ, goInt 0, w, ?_, by simp [R, goInt, vI], r, Ext.refl _ _ _⟩
              simp only [Builtin.copy_, ht0]
              simp only [List.getElem?_toArray, List.getElem?_cons_zero, List.getElem?_cons_succ, Sem.run_bind, run_underlying hu0, Result.andThen_ok, g4, hszr]
              show ((Builtin.firstCells sz (min m 0) x').run P w).andThen _ = _
              rw [g6]
              simp only [Result.andThen_ok, Sem.run_pure]
              show Result.ok (goInt (min m 0 : Nat)) w = _
              rw [Nat.min_zero]
              rfl
            · cases hv
          · cases hv
        · cases hv
      · cases hv
    · cases hv
  · -- unsafe.String of nil
    rename_i k
    obtain ⟨p', n', rfl, hp, hn⟩ := RL_two ha
    simp only [R] at hp hn
    subst hp
    subst hn
    refine fin (s := Builtin.unsafeString_ ts ty _) ?_
    split at hv
    · rename_i t ht0
      cases hv
      refine ⟨ρ, .string .empty, w, ?_, by simp only [R]; exact ⟨rfl, by simp⟩, r, Ext.refl _ _ _⟩
      have : ¬ (IntKind.i64.max < 0) := by decide
      have us_eq : ∀ p l, Builtin.unsafeString_ ts ty #[.pointer p, l] = (asInt l >>= _) := fun _ _ => rfl
      rw [us_eq]
      simp [ht0, run_asInt]
    · cases hv
  · -- unsafe.String
    rename_i n off l
    obtain ⟨p', n', rfl, hp, hn⟩ := RL_two ha
    refine fin (s := Builtin.unsafeString_ ts ty _) ?_
    simp only [R] at hp
    obtain ⟨lo, hlo, rfl⟩ := hp
    split at hv
    · rename_i t hn0 ht0
      cases hv
      obtain ⟨k, rfl⟩ := natOf_ok hn hn0
      refine ⟨ρ, .string .empty, w, ?_, by simp only [R]; exact ⟨rfl, by simp⟩, r, Ext.refl _ _ _⟩
      have : ¬ (IntKind.i64.max < 0) := by decide
      have us_eq : ∀ p l, Builtin.unsafeString_ ts ty #[.pointer p, l] = (asInt l >>= _) := fun _ _ => rfl
      rw [us_eq]
      simp [ht0, run_asInt]
    · rename_i k pt hnk ht0
      obtain ⟨ki, rfl⟩ := natOf_ok hn hnk
      split at hv
      · rename_i pi tr size d el es g hpi ho
        have hu := (ok.T _ _ hpi).und
        split at hv
        · rename_i e' ei hpd hei
          rw [hpd] at hu
          split at hv
          · rename_i hid his
            split at hv
            · rename_i hee
              subst hee
              split at hv
              · rename_i cs hrd
                split at hv
                · rename_i bs hbs hkb
                  rw [Nat.ble_eq] at hkb
                  cases hv
                  have hor := obj_cells r.q hlo ho
                  have hsh := cell_shape hor rfl
                  obtain ⟨q1, q2, q3, c, fr, q4, q5, q6, q7⟩ := hor
                  obtain ⟨xs, c1, c2, c3⟩ := readCells_ok q7 hrd
                  obtain ⟨hxs, hlt⟩ := bytesOf_ok hbs c2
                  have hlen : bs.length = k + 1 := by rw [← c1, hxs]; simp
                  have hin : off + (k + 1) ≤ size := readCells_in hrd (by omega)
                  have hlive : live h n = true := live_iff.2 ⟨_, ho, by intro h; cases h⟩
                  have hTi := ok.T _ _ hei
                  have hcell : P.cellsOf el = 0 + 1 := by
                    obtain ⟨ti, z, g1, g2, _⟩ := hTi.info
                    simp [Program.cellsOf, g1, g2, his]
                  have hva : (variablesAt (lo.at off) el (k + 1)).run P w = .ok true w := by
                    have hsh' : w.shape? (lo.at off).block = some (el, lo.base + lo.c) := hsh
                    have := liesAt_row P (el := el) (s := 0) (count := (lo.base + lo.c) / P.cellsOf el) (off := (lo.at off).off) (n := k + 1) hcell (by omega) (by
                      rw [hcell]
                      show (lo.base + off) / (0 + 1) + (k + 1) ≤ (lo.base + lo.c) / (0 + 1)
                      simp only [Nat.zero_add, Nat.div_one]
                      omega)
                    simp [variablesAt, hsh', this]
                  have hlb := run_loadBytes (P := P) (w := w) bs (lo.at off) .empty hlt (fun j v hj => by
                    rw [at_add, Loc.at, cell_of q4]
                    rw [← hxs] at hj
                    have hjl : j < k + 1 := by
                      rw [← c1]
                      exact (List.getElem?_eq_some_iff.1 hj).1
                    rw [c3 j hjl]
                    exact hj)
                  rw [hlen] at hlb
                  have hput := r.put (w' := w.freeze (lo.at off) (k + 1)) (o := .dead) hlive hlo (fun b hne => by
                    simp only [World.freeze, Nat.add_one_ne_zero, if_false, Array.getElem?_modify]
                    rw [if_neg (fun hh => hne hh.symm)]) (by simp [World.freeze]) trivial
                  refine ⟨ρ, .string (toB bs), w.freeze (lo.at off) (k + 1), ?_, ⟨rfl, hlt⟩, hput.1, hput.2⟩
                  have us_eq : ∀ p l, Builtin.unsafeString_ ts ty #[.pointer p, l] = (asInt l >>= _) := fun _ _ => rfl
                  rw [us_eq]
                  have h1 : ¬ ((Int.ofNat (k + 1)) < 0) := by show ¬ (((k + 1 : Nat) : Int) < 0); omega
                  have h2 : ¬ (IntKind.i64.max < (Int.ofNat (k + 1))) := by
                    have : IntKind.i64.max = 9223372036854775807 := rfl
                    rw [this]
                    show ¬ (9223372036854775807 < ((k + 1 : Nat) : Int))
                    omega
                  have h3 : ¬ ((Int.ofNat (k + 1)) = 0) := by show ¬ (((k + 1 : Nat) : Int) = 0); omega
                  have h4 : (Int.ofNat (k + 1)).toNat = k + 1 := rfl
                  simp only [ht0, Sem.run_bind, run_asInt, Result.andThen_ok, gt_iff_lt, h1, h2, h3, if_false, h4, Sem.run_pure, elemOf, run_underlying hu, hva, if_true, hlb, run_freeze, ByteArray.empty_append]
                · cases hv
              · cases hv
            · cases hv
          · cases hv
        · cases hv
      · cases hv
    · cases hv
  · -- clear
    rename_i m
    obtain ⟨m', rfl, hm⟩ := RL_one ha
    refine fin (s := Builtin.clear_ ts ty #[m']) ?_
    split at hv
    · rename_i t ht0
      split at hv
      · rename_i i hi
        have hu0 := (ok.T _ _ hi).und
        split at hv
        · rename_i kt vt n hd
          rw [hd] at hu0
          split at hv
          · rename_i es clock ho
            cases hv
            simp only [R] at hm
            obtain ⟨l, hl, rfl⟩ := hm
            obtain ⟨es', g1, g2, g3⟩ := run_getMap (P := P) r.q hl ho
            obtain ⟨w', k1, k2, k3⟩ := put_map (P := P) (c2 := clock) (es2 := []) (es' := #[]) r hl ho rfl rfl
            refine ⟨ρ, .tuple #[], w', ?_, by simp [R, RL], k2, k3⟩
            simp [Builtin.clear_, ht0, run_underlying hu0, g1, k1]
          · cases hv
        · rename_i kt vt hd
          rw [hd] at hu0
          cases hv
          simp only [R] at hm
          subst hm
          refine ⟨ρ, .tuple #[], w, ?_, by simp [R, RL], r, Ext.refl _ _ _⟩
          simp [Builtin.clear_, ht0, run_underlying hu0]
        · cases hv
      · cases hv
    · cases hv
  · -- delete
    rename_i m k
    obtain ⟨m', k', rfl, hm, hk⟩ := RL_two ha
    refine fin (s := Builtin.delete_ ts ty #[m', k']) ?_
    split at hv
    · rename_i t ht0
      split at hv
      · rename_i i hi
        have hu0 := (ok.T _ _ hi).und
        split at hv
        · rename_i kt vt n hd hkey
          rw [hd] at hu0 hkey
          simp only [keyIn] at hkey
          have hck : ∀ b, (Instr.checkKey b 10000 kt k').run P w = .ok () w := fun b => checkKey_ok ok 4 (by omega) hk hkey
          have hkt : ∃ ki, E.T.get kt = some ki := by
            cases hg : E.T.get kt with
            | some ki => exact ⟨ki, rfl⟩
            | none => simp [keyFits, hg] at hkey
          obtain ⟨ki, hki⟩ := hkt
          split at hv
          · rename_i es clock ho
            simp only [R] at hm
            obtain ⟨l, hl, rfl⟩ := hm
            obtain ⟨es', g1, g2, g3⟩ := run_getMap (P := P) r.q hl ho
            split at hv
            · rename_i es2 hdel
              cases hv
              rcases mapDel_ok (w := w) (i := 0) ok hk g2 hdel with ⟨g4, g5⟩ | ⟨j, x, g4, g5, g6⟩
              · have g7 := findKey_run ok hki g4
                obtain ⟨w', k1, k2, k3⟩ := put_map (P := P) (c2 := clock) r hl ho rfl g5
                refine ⟨ρ, .tuple #[], w', ?_, by simp [R, RL], k2, k3⟩
                simp [Builtin.delete_, ht0, run_underlying hu0, g1, hck, g7, k1]
              · have g7 := findKey_run ok hki g4
                rw [Nat.zero_add] at g7
                obtain ⟨w', k1, k2, k3⟩ := put_map (P := P) (c2 := clock) (es' := es'.eraseIdxIfInBounds j) r hl ho rfl (by
                  have : j < es'.size := by
                    have := (List.getElem?_eq_some_iff.1 g5).1
                    simpa using this
                  simpa [Array.eraseIdxIfInBounds, this] using g6)
                refine ⟨ρ, .tuple #[], w', ?_, by simp [R, RL], k2, k3⟩
                simp [Builtin.delete_, ht0, run_underlying hu0, g1, hck, g7, k1]
            · cases hv
          · cases hv
        · cases hv
      · cases hv
    · cases hv
  · cases hv
end
end Go.Eng

/- The engine: operations that write. -/
namespace Go.Eng
section
variable {P : Program} {E : Env} {ρ : Ren} {h : Heap} {w : World} {tm : Tr AV} {e : Operand → Value}

/-- What an operation that is done at once comes to. -/
def Did (P : Program) (nG : Nat) (ρ : Ren) (h : Heap) (w : World) (s : Sem Next) (v : AV) (h' : Heap) : Prop :=
  ∃ ρ' nx y w', s.run P w = .ok nx w' ∧ (nx = .value y ∨ nx = .skip ∧ y = undef) ∧ R ρ' v y ∧ Rel nG ρ' h' w' ∧ Ext ρ h w ρ' h' w'

theorem did_v {nG : Nat} {s : Sem Value} {v : AV} {h' : Heap} (hs : ∃ ρ' y w', s.run P w = .ok y w' ∧ R ρ' v y ∧ Rel nG ρ' h' w' ∧ Ext ρ h w ρ' h' w') :
    Did P nG ρ h w (do pure (Next.value (← s))) v h' := by
  obtain ⟨ρ', y, w', h1, h2, h3, h4⟩ := hs
  exact ⟨ρ', .value y, y, w', run_v' h1, .inl rfl, h2, h3, h4⟩

theorem did_u {nG : Nat} {s : Sem Unit} {h' : Heap} (hs : ∃ ρ' w', s.run P w = .ok () w' ∧ Rel nG ρ' h' w' ∧ Ext ρ h w ρ' h' w') :
    Did P nG ρ h w (do s; pure Next.skip) (.tup []) h' := by
  obtain ⟨ρ', w', h1, h3, h4⟩ := hs
  exact ⟨ρ', .skip, undef, w', by simp only [Sem.run_bind, h1, Result.andThen_ok, Sem.run_pure], .inr ⟨rfl, rfl⟩, by simp [R, RL, undef], h3, h4⟩

theorem RL_ofBytes {l : List Nat} : RL ρ (ofBytes l) (l.map fun (n : Nat) => Value.int .u8 (n : Int)) := by
  induction l with
  | nil => simp [ofBytes, RL]
  | cons a l ih =>
    simp only [ofBytes, List.map_cons, RL] at ih ⊢
    exact ⟨_, _, rfl, by simp [R], ih⟩

theorem bytes_cells {l : List Nat} (hlt : ∀ n ∈ l, n < 256) : ((toB l).data.map fun b => Value.int .u8 b.toNat).toList = l.map fun (n : Nat) => Value.int .u8 (n : Int) := by
  simp only [toB, Array.toList_map, List.map_map]
  refine List.map_congr_left fun n hn => ?_
  simp only [Function.comp]
  rw [UInt8.toNat_ofNat_of_lt' (hlt n hn)]

theorem run_strBytes {src dst el : TypeId} {l : List Nat} (hs : P.underlying src = some .string) (hd : P.underlying dst = some (.slice el)) (hel : P.underlying el = some (.int .u8)) :
    ∃ w', (convert src dst (.string (toB l))).run P w = .ok (.slice (some ⟨w.heap.size, 0, none⟩) (toB l).size (grownCap w (toB l).size 0 el)) w' ∧ w'.heap.size = w.heap.size + 1 ∧ (∀ b, b < w.heap.size → w'.heap[b]? = w.heap[b]?) ∧
      w'.heap[w.heap.size]? = some (.cells (((toB l).data.map fun b => Value.int .u8 b.toNat) ++ Array.replicate (grownCap w (toB l).size 0 el - (toB l).size) (.int .u8 0)) el
        ((((toB l).data.map fun b => Value.int .u8 b.toNat) ++ Array.replicate (grownCap w (toB l).size 0 el - (toB l).size) (Value.int .u8 0)).size,
        (((toB l).data.map fun b => Value.int .u8 b.toNat) ++ Array.replicate (grownCap w (toB l).size 0 el - (toB l).size) (Value.int .u8 0)).size + 1)) ∧ Kpt w w' := by
  generalize hc : (((toB l).data.map fun b => Value.int .u8 b.toNat) ++ Array.replicate (grownCap w (toB l).size 0 el - (toB l).size) (Value.int .u8 0)) = cells
  have hsh : ∀ c : Array Value, (w.drew.alloc (.cells c el)).shape? w.heap.size = some (el, c.size) := by
    intro c
    have : (w.drew.alloc (.cells c el)).heap[w.heap.size]? = some (.cells c el) := by show (w.heap.push _)[w.heap.size]? = _; simp
    unfold World.shape?
    rw [this]
  refine ⟨(w.drew.alloc (.cells cells el)).freeze { block := w.heap.size, off := cells.size } 1, ?_, ?_, ?_, ?_, rfl, rfl, rfl⟩
  · subst hc
    simp [convert, run_underlying hs, run_underlying hd, run_underlying hel, Conv.stringToBytes, newRow, markStringish, Question.forced, grownCap, hsh]
  · simp only [World.freeze]
    show ((w.heap.push _).modify _ _).size = _
    simp
  · intro b hb
    show ((w.heap.push _).modify _ _)[b]? = _
    rw [Array.getElem?_modify, if_neg (by show ¬ w.heap.size = b; omega), Array.getElem?_push, if_neg (by omega)]
  · show ((w.heap.push _).modify _ _)[w.heap.size]? = _
    rw [Array.getElem?_modify, if_pos rfl]
    simp

theorem run_strRunes {src dst el : TypeId} {l : List Nat} (hs : P.underlying src = some .string) (hd : P.underlying dst = some (.slice el)) (hel : P.underlying el = some (.int .i32)) :
    ∃ w', (convert src dst (.string (toB l))).run P w = .ok (.slice (some ⟨w.heap.size, 0, none⟩) (toRunes l).length (grownCap w (toRunes l).length 0 el)) w' ∧ w'.heap.size = w.heap.size + 1 ∧ (∀ b, b < w.heap.size → w'.heap[b]? = w.heap[b]?) ∧
      w'.heap[w.heap.size]? = some (.cells (Conv.runesFrom (toB l) (toB l).size 0 #[] ++ Array.replicate (grownCap w (toRunes l).length 0 el - (toRunes l).length) (.int .i32 0)) el (0, 0)) ∧ Kpt w w' := by
  have hlen : (toRunes l).length = (Conv.runesFrom (toB l) (toB l).size 0 #[]).size := by simp [toRunes]
  refine ⟨w.drew.alloc (.cells (Conv.runesFrom (toB l) (toB l).size 0 #[] ++ Array.replicate (grownCap w (toRunes l).length 0 el - (toRunes l).length) (.int .i32 0)) el), ?_, ?_, ?_, ?_, rfl, rfl, rfl⟩
  · rw [hlen]
    simp [convert, run_underlying hs, run_underlying hd, run_underlying hel, Conv.stringToRunes, newRow, Question.forced, grownCap]
  · show (w.heap.push _).size = _
    simp
  · intro b hb
    show (w.heap.push _)[b]? = _
    rw [Array.getElem?_push, if_neg (by omega)]
  · show (w.heap.push _)[w.heap.size]? = _
    simp

theorem mapPut_did (ok : EnvOK P E) (r : Rel E.nG ρ h w) {t : TypeId} {m : Nat} {k v : AV} {m' k' v' : Value} {i : TI} {h' : Heap} {vv : AV} (hi : E.T.get t = some i) (hm : R ρ (.mp m) m') (hk : R ρ k k') (hvv : R ρ v v')
    (hv : (match i.desc, h.obj m, keyIn E i.desc k with
      | .map kt _, some (.map es clock), true => match mapPut E h kt k v clock es with
          | some (es', c) => some (AV.tup [], h.put m (.map es' c))
          | none => none
      | _, _, _ => none) = some (vv, h')) : vv = .tup [] ∧ ∃ ρ' w', (Instr.mapUpdate t m' k' v').run P w = .ok () w' ∧ Rel E.nG ρ' h' w' ∧ Ext ρ h w ρ' h' w' := by
  have hu := (ok.T _ _ hi).und
  split at hv
  · rename_i kt vt es clock hd ho hkey
    rw [hd] at hu hkey
    simp only [keyIn] at hkey
    have hck : ∀ b, (Instr.checkKey b 10000 kt k').run P w = .ok () w := fun b => checkKey_ok ok 4 (by omega) hk hkey
    have hkt : ∃ ki, E.T.get kt = some ki := by
      cases hg : E.T.get kt with
      | some ki => exact ⟨ki, rfl⟩
      | none => simp [keyFits, hg] at hkey
    obtain ⟨ki, hki⟩ := hkt
    simp only [R] at hm
    obtain ⟨l, hl, rfl⟩ := hm
    obtain ⟨es', g1, g2, g3⟩ := run_getMap (P := P) r.q hl ho
    split at hv
    · rename_i es2 c2 hput
      cases hv
      refine ⟨rfl, ?_⟩
      rcases mapPut_ok (w := w) (i := 0) ok hk hvv g2 hput with ⟨rfl, g4, g5⟩ | ⟨j, x, rfl, g4, g5, g6, g7⟩
      · have g8 := findKey_run ok hki g4
        obtain ⟨w', k1, k2, k3⟩ := put_map (P := P) (c2 := clock + 1) (es' := es'.push ⟨k', v', clock⟩) r hl ho rfl (by simpa using g5)
        refine ⟨ρ, w', ?_, k2, k3⟩
        simp [Instr.mapUpdate, run_underlying hu, g1, hck, g8, k1]
      · have g8 := findKey_run ok hki g4
        rw [Nat.zero_add] at g8
        have g5' : es'[j]? = some x := by simpa using g5
        obtain ⟨k2, w1, s1, s2, s3, s4⟩ := keyStays (P := P) (w := w) g6 hk
        obtain ⟨w', e1, e2, e3⟩ := put_map (P := P) (c2 := c2) (es' := es'.modify j fun e => { e with key := k2, val := v' }) r hl ho s3 (by simpa using g7 k2 s2) s4
        refine ⟨ρ, w', ?_, e2, e3⟩
        simp only [Instr.mapUpdate, Sem.run_bind, run_underlying hu, Result.andThen_ok, g1, hck, g8]
        simp only [g5', Option.map_some, Option.getD_some, s1, Result.andThen_ok, e1]
    · cases hv
  · cases hv

set_option maxHeartbeats 2000000 in
theorem aopW_ok (ok : EnvOK P E) (r : Rel E.nG ρ h w) (he : EvOK E.nG ρ tm e) {o : Oper} {v : AV} {h' : Heap} (hv : aopW E tm h o.op = some (v, h')) : Did P E.nG ρ h w (execOp e o) v h' := by
  rw [aopW_def] at hv
  unfold aopW0 at hv
  unfold execOp
  split at hv
  · -- store
    rename_i t a x hx
    rw [hx]
    split at hv
    · rename_i n off u s hna hu hs
      have ha := he _ _ hna
      have hxu := he _ _ hu
      simp only [R] at ha
      obtain ⟨l, hl, hae⟩ := ha
      split at hv
      · rename_i hc
        simp only [Bool.and_eq_true, Nat.beq_eq] at hc
        split at hv
        · rename_i h1 hw
          cases hv
          refine did_u (s := Instr.storeAt t (e a) (e x)) ?_
          have hc1 := cellsOf_ok hxu hc.1
          obtain ⟨w', k1, k2, k3⟩ := write_ok (P := P) r hl hc1 hw
          refine ⟨ρ, w', ?_, k2, k3⟩
          have hlen := RL_length hc1
          have hsz := sizeT_ok (w := w) ok hs
          have hne : ¬ ((e x).cells.size ≠ s) := by
            rw [hc.2] at hlen
            simpa using hlen.symm
          rw [hae]
          simp only [Instr.storeAt, Instr.sureAddr, storeVar, Sem.run_bind, Sem.run_pure, Result.andThen_ok, hsz, hne, if_false, k1]
        · cases hv
      · cases hv
    · cases hv
  · -- convert
    rename_i src dst x hx
    rw [hx]
    refine did_v (s := convert src dst (e x)) ?_
    split at hv
    · rename_i u i j hu hi hj
      have hs := (ok.T _ _ hi).und
      have hd := (ok.T _ _ hj).und
      have hxu := he _ _ hu
      split at hv
      · rename_i el l hsd hdd
        rw [hsd] at hs
        rw [hdd] at hd
        simp only [R] at hxu
        obtain ⟨hxe, hlt⟩ := hxu
        split at hv
        · rename_i ei hei
          have hel := (ok.T _ _ hei).und
          split at hv
          · -- bytes
            rename_i hed hes
            rw [hed] at hel
            cases hv
            rw [hxe]
            have hcap : (toB l).size ≤ grownCap w (toB l).size 0 el := by simp [grownCap, Question.cut]
            rw [size_toB] at hcap
            have hcells := bytes_cells hlt
            obtain ⟨w', hrun, g1, g2, g3, g4⟩ := run_strBytes (w := w) (el := el) hs hd hel (l := l)
            obtain ⟨k1, k2⟩ := new_any (w' := w') (o := rowObj (ofBytes l) el 1 true) (c := grownCap w l.length 0 el) (s := 1) r g1 g2 g3 (fun ρ' _ _ => by
              refine OR_rowF _ (.inr (by simp [size_toB])) rfl (by simp [size_toB]; omega) rfl (by simp [ofBytes, size_toB]) (fun h => by cases h) ?_
              rw [show (ofBytes l).length = ((toB l).data.map fun b => Value.int .u8 b.toNat).toList.length from by rw [hcells]; simp [ofBytes]]
              rw [Array.toList_append, List.take_left, hcells]
              exact RL_ofBytes) g4
            refine ⟨_, .slice (some ⟨w.heap.size, 0, none⟩) l.length (grownCap w l.length 0 el), w', by rw [hrun, size_toB], ?_, k1, k2⟩
            simp only [R]
            refine ⟨_, Ren.put_same _ _ _, by show 0 < 1; omega, by show 0 + l.length * 1 ≤ grownCap w l.length 0 el; omega, ?_⟩
            simp [Loc.at]
          · -- runes
            rename_i hed hes
            rw [hed] at hel
            cases hv
            rw [hxe]
            have hlen : (toRunes l).length = (Conv.runesFrom (toB l) (toB l).size 0 #[]).size := by simp [toRunes]
            have hcap : (toRunes l).length ≤ grownCap w (toRunes l).length 0 el := by simp [grownCap, Question.cut]
            obtain ⟨w', hrun, g1, g2, g3, g4⟩ := run_strRunes (w := w) (el := el) hs hd hel (l := l)
            obtain ⟨k1, k2⟩ := new_any (w' := w') (o := rowObj (toRunes l) el 1 true) (c := grownCap w (toRunes l).length 0 el) (s := 1) r g1 g2 g3 (fun ρ' _ _ => by
              refine OR_row rfl (by rw [Array.size_append, Array.size_replicate, ← hlen]; show grownCap w (toRunes l).length 0 el = _; omega) rfl (by simp [hlen]) (fun h => by cases h) ?_
              rw [show (toRunes l).length = (Conv.runesFrom (toB l) (toB l).size 0 #[]).toList.length from by rw [hlen]; simp]
              rw [Array.toList_append, List.take_left, toRunes]
              exact RL_map_sc _) g4
            refine ⟨_, .slice (some ⟨w.heap.size, 0, none⟩) (toRunes l).length (grownCap w (toRunes l).length 0 el), w', hrun, ?_, k1, k2⟩
            simp only [R]
            refine ⟨_, Ren.put_same _ _ _, by show 0 < 1; omega, by show 0 + (toRunes l).length * 1 ≤ grownCap w (toRunes l).length 0 el; omega, ?_⟩
            simp [Loc.at]
          · cases hv
        · cases hv
      · rename_i e0 el n off len cap hsd hdd
        rw [hsd] at hs
        rw [hdd] at hd
        have hxu' := hxu
        simp only [R] at hxu
        obtain ⟨l, hl, hsl⟩ := hxu
        obtain ⟨c0, hxe⟩ := slcV_at hsl
        split at hv
        · rename_i ei hei
          have hel := (ok.T _ _ hei).und
          split at hv
          · rename_i hed
            rw [hed] at hel
            split at hv
            · rename_i tr size d el' es g ho
              split at hv
              · rename_i hsd'
                subst hsd'
                cases hv
                rw [hs] at hd
                cases hd
                have hd := hs
                have hor := obj_cells r.q hl ho
                have hsh := cell_shape hor rfl
                obtain ⟨q1, q2, q3, c, fr, q4, q5, q6, q7⟩ := hor
                have hpos : (1 : Nat) ≠ 0 := by omega
                have hfz : (w.freeze { block := l.b, off := l.base + l.c } 1).heap[l.b]? = some (.cells c el' (if fr.1 == fr.2 then (l.base + l.c, l.base + l.c + 1) else (min fr.1 (l.base + l.c), max fr.2 (l.base + l.c + 1)))) := by
                  simp [World.freeze, Array.getElem?_modify, q4]
                obtain ⟨k1, k2⟩ := r.turn (w' := w.freeze { block := l.b, off := l.base + l.c } 1) ho (by intro h; cases h) hl (fun b hne => by
                    simp only [World.freeze, hpos, if_false, Array.getElem?_modify]
                    rw [if_neg (fun hh => hne hh.symm)]) (by simp [World.freeze]) (by
                  rw [hfz]
                  refine ⟨q1, q2, q3, c, _, rfl, q5, ?_, q7⟩
                  split
                  · exact .inr (Nat.le_refl _)
                  · rename_i hne
                    rcases q6 with q6 | q6
                    · exact absurd (by simpa using q6) hne
                    · exact .inr (by show l.base + l.c ≤ min fr.1 (l.base + l.c); omega))
                refine ⟨ρ, e x, _, ?_, hxu', k1, k2⟩
                rw [hxe]
                have hsh' : w.shape? (l.at off).block = some (el', l.base + l.c) := hsh
                simp [convert, run_underlying hs, run_underlying hel, markStringish, hsh']
                rfl
              · cases hv
            · cases hv
          · cases hv
        · cases hv
      · cases hv
    · cases hv
  · -- mapUpdate
    rename_i t m k x hx
    rw [hx]
    split at hv
    · rename_i n kv u i hm hk hu hi
      obtain ⟨rfl, hd⟩ := mapPut_did ok r hi (he _ _ hm) (he _ _ hk) (he _ _ hu) hv
      exact did_u hd
    · cases hv
  · -- insert
    rename_i t m k x hx
    rw [hx]
    split at hv
    · rename_i n kv u i hm hk hu hi
      obtain ⟨rfl, hd⟩ := mapPut_did ok r hi (he _ _ hm) (he _ _ hk) (he _ _ hu) hv
      exact did_u hd
    · cases hv
  · -- mapEntry
    rename_i t m k hx
    rw [hx]
    refine did_v (s := Instr.mapEntry t (e m) (e k)) ?_
    split at hv
    · rename_i n kv i hm hk hi
      have hu := (ok.T _ _ hi).und
      have hmm := he _ _ hm
      have hkk := he _ _ hk
      simp only [R] at hmm
      obtain ⟨l, hl, hme⟩ := hmm
      split at hv
      · rename_i kt vt es clock hd ho hkey
        rw [hd] at hu hkey
        simp only [keyIn] at hkey
        have hck : ∀ b, (Instr.checkKey b 10000 kt (e k)).run P w = .ok () w := fun b => checkKey_ok ok 4 (by omega) hkk hkey
        have hkt : ∃ ki, E.T.get kt = some ki := by
          cases hg : E.T.get kt with
          | some ki => exact ⟨ki, rfl⟩
          | none => simp [keyFits, hg] at hkey
        obtain ⟨ki, hki⟩ := hkt
        obtain ⟨es', g1, g2, g3⟩ := run_getMap (P := P) r.q hl ho
        rw [hme]
        split at hv
        · rename_i en _ hf
          split at hv
          · rename_i hav
            have hke := avEq_eq _ _ hav
            cases hv
            rcases mapFind_ok (w := w) (i := 0) ok hkk g2 hf with ⟨hn, _⟩ | ⟨m1, j, y, hn, s1, s2, s3, s4, s5, s6⟩
            · cases hn
            · cases hn
              have g8 := findKey_run ok hki s1
              rw [Nat.zero_add] at g8
              have s2' : es'[j]? = some y := by simpa using s2
              obtain ⟨k2, w1, z1, z2, z3, z4⟩ := keyStays (P := P) (w := w) s4 (by rw [← hke]; exact hkk)
              have hlt := (r.lt n l hl).2
              have hmod : ER ρ es (es'.modify j fun e => { e with key := k2 }).toList := by
                rw [Array.toList_modify]
                exact ER_keep g2 s3 (fun x hx => by rw [s2] at hx; cases hx; exact ⟨z2, s5, s6⟩)
              refine ⟨ρ, .tuple #[y.val, goInt y.born], { w1 with heap := w1.heap.setIfInBounds l.b (.map (es'.modify j fun e => { e with key := k2 }) clock) }, ?_, ?_, ?_⟩
              · have hin : w1.heap[l.b]? = some (.map es' clock) := by rw [z3]; exact g3
                have hset : (setObj l.b (.map (es'.modify j fun e => { e with key := k2 }) clock)).run P w1 = .ok () { w1 with heap := w1.heap.setIfInBounds l.b (.map (es'.modify j fun e => { e with key := k2 }) clock) } := by
                  simp [setObj, Sem.run, hin]
                simp only [Instr.mapEntry, Sem.run_bind, run_underlying hu, Result.andThen_ok, g1, hck, g8]
                simp only [s2', Option.map_some, Option.getD_some, z1, Result.andThen_ok, hset, Sem.run_pure]
              · simp only [R]
                refine ⟨_, rfl, ?_⟩
                simp only [RL]
                exact ⟨_, _, rfl, s5, _, _, rfl, by simp [goInt, s6, R, vI], rfl⟩
              · refine r.turn ho (by intro h; cases h) hl ?_ (by simp [z3]) ?_ (z4.trans ⟨rfl, rfl, rfl⟩)
                · intro b hne
                  rw [← z3]
                  exact Array.getElem?_setIfInBounds_ne fun h => hne h.symm
                · show OR ρ l _ ((w1.heap.setIfInBounds l.b (.map (es'.modify j fun e => { e with key := k2 }) clock))[l.b]?)
                  rw [Array.getElem?_setIfInBounds_self_of_lt (by rw [z3]; exact hlt)]
                  exact ⟨_, rfl, hmod⟩
          · cases hv
        · rename_i vi hf hvi
          split at hv
          · rename_i z hz
            cases hv
            obtain ⟨z', h4, h5⟩ := R_zeroA (w := w) (ρ := ρ) (ok.T _ _ hvi) hz
            rcases mapFind_ok (w := w) (i := 0) ok hkk g2 hf with ⟨_, s1⟩ | ⟨m1, j, y, hn, _⟩
            · have g8 := findKey_run ok hki s1
              obtain ⟨w', k1, k2, k3⟩ := put_map (P := P) (c2 := clock + 1) (es' := es'.push ⟨e k, z', clock⟩) r hl ho rfl (by
                rw [Array.toList_push]
                exact ER_push (m := ⟨kv, z, clock⟩) hkk h5 rfl g2)
              refine ⟨ρ, .tuple #[z', goInt clock], w', ?_, ?_, k2, k3⟩
              · simp [Instr.mapEntry, run_underlying hu, g1, hck, g8, h4, k1]
              · simp only [R]
                refine ⟨_, rfl, ?_⟩
                simp only [RL]
                exact ⟨_, _, rfl, h5, _, _, rfl, by simp [goInt, R, vI], rfl⟩
            · cases hn
          · cases hv
        · cases hv
      · cases hv
    · cases hv
  · -- entryStore
    rename_i t m s x hx
    rw [hx]
    split at hv
    · rename_i n sv u hm hs hu
      have hmm := he _ _ hm
      simp only [R] at hmm
      obtain ⟨l, hl, hme⟩ := hmm
      split at hv
      · rename_i es clock b ho hb
        obtain ⟨k, hse⟩ := natOf_ok (he _ _ hs) hb
        obtain ⟨es', g1, g2, g3⟩ := run_getMap (P := P) r.q hl ho
        split at hv
        · rename_i es2 hput
          cases hv
          refine did_u (s := Instr.entryStore t (e m) (e s) (e x)) ?_
          obtain ⟨j, s1, s2⟩ := entryPut_ok (he _ _ hu) g2 hput
          obtain ⟨w', k1, k2, k3⟩ := put_map (P := P) (c2 := clock) (es' := es'.modify j fun en => { en with val := e x }) r hl ho rfl (by
            rw [Array.toList_modify]; exact s2)
          refine ⟨ρ, w', ?_, k2, k3⟩
          rw [hme, hse]
          have s1' : es'.findIdx? (fun en => (en.born : Int) == (Int.ofNat b)) = some j := by
            rw [← List.findIdx?_toArray] at s1; exact s1
          simp only [Instr.entryStore, Sem.run_bind, g1, Result.andThen_ok, run_asInt, s1', k1]
        · cases hv
      · cases hv
    · cases hv
  · -- range
    rename_i t x hx
    rw [hx]
    refine did_v (s := Instr.range t (e x)) ?_
    split at hv
    · rename_i l i hu hi
      have hun := (ok.T _ _ hi).und
      have hxu := he _ _ hu
      simp only [R] at hxu
      obtain ⟨hxe, hlt⟩ := hxu
      split at hv
      · rename_i hd
        rw [hd] at hun
        cases hv
        rw [hxe]
        obtain ⟨k1, k2⟩ := new_any (w' := w.alloc (.stringIter (toB l) 0)) (o := .siter l 0) (ob := .stringIter (toB l) 0) (c := 0) (s := 0) r (by show (w.heap.push _).size = _; simp) (fun b hb => by
          show (w.heap.push _)[b]? = _
          rw [Array.getElem?_push, if_neg (by omega)]) (by show (w.heap.push _)[w.heap.size]? = _; simp) (fun _ _ _ => ⟨rfl, rfl, hlt⟩)
        refine ⟨_, .pointer (some ⟨w.heap.size, 0, none⟩), _, ?_, ?_, k1, k2⟩
        · simp [Instr.range, run_underlying hun]
        · simp only [R]
          exact ⟨_, Ren.put_same _ _ _, rfl⟩
      · cases hv
    · cases hv
  · -- next
    rename_i it isString hx
    rw [hx]
    refine did_v (s := Instr.next (e it) isString o.type) ?_
    split at hv
    · rename_i n hu
      have hxu := he _ _ hu
      simp only [R] at hxu
      obtain ⟨l, hl, hxe⟩ := hxu
      split at hv
      · rename_i s pos ho
        obtain ⟨l', hl', hor⟩ := r.obj _ _ ho (by intro h; cases h)
        rw [hl] at hl'
        cases hl'
        obtain ⟨hb0, hob, hlt⟩ := hor
        have hxe' : e it = .pointer (some ⟨l.b, 0, none⟩) := by rw [hxe, Loc.at, hb0]
        have hget : (getObj l.b).run P w = .ok (.stringIter (toB s) pos) w := by simp [getObj, Sem.run, hob]
        have hsize := size_toB s
        split at hv
        · rename_i hp
          rw [Nat.blt_eq] at hp
          cases hv
          have hlt' := (r.lt n l hl).2
          refine ⟨ρ, .tuple #[.bool true, goInt pos, .int .i32 (Utf8.decode (toB s) pos).1], { w with heap := w.heap.setIfInBounds l.b (.stringIter (toB s) (pos + (Utf8.decode (toB s) pos).2)) }, ?_, ?_, ?_⟩
          · have hset : (setObj l.b (.stringIter (toB s) (pos + (Utf8.decode (toB s) pos).2))).run P w = .ok () { w with heap := w.heap.setIfInBounds l.b (.stringIter (toB s) (pos + (Utf8.decode (toB s) pos).2)) } := by
              simp [setObj, Sem.run, hob]
            rw [hxe']
            simp only [Instr.next, Sem.run_bind, hget, Result.andThen_ok]
            rw [if_pos (by omega)]
            simp only [Sem.run_bind, hset, Result.andThen_ok, Sem.run_pure]
          · simp only [R]
            refine ⟨_, rfl, ?_⟩
            simp only [RL, R, vI]
            exact ⟨_, _, rfl, rfl, _, _, rfl, by simp [goInt], _, _, rfl, by simp, rfl⟩
          · refine r.put (live_iff.2 ⟨_, ho, by intro h; cases h⟩) hl ?_ (by simp) ?_
            · intro b hne
              exact Array.getElem?_setIfInBounds_ne fun h => hne h.symm
            · show OR ρ l _ ((w.heap.setIfInBounds l.b (.stringIter (toB s) (pos + (Utf8.decode (toB s) pos).2)))[l.b]?)
              rw [Array.getElem?_setIfInBounds_self_of_lt hlt']
              exact ⟨hb0, rfl, hlt⟩
        · rename_i hp
          have hp' : ¬ pos < s.length := by
            intro h
            rw [← Nat.blt_eq] at h
            rw [h] at hp
            cases hp
          cases hv
          refine ⟨ρ, .tuple #[.bool false], w, ?_, ?_, r, Ext.refl _ _ _⟩
          · rw [hxe']
            simp only [Instr.next, Sem.run_bind, hget, Result.andThen_ok]
            rw [if_neg (by omega)]
            rfl
          · simp only [R]
            refine ⟨_, rfl, ?_⟩
            simp only [RL, R]
            exact ⟨_, _, rfl, rfl, rfl⟩
      · cases hv
    · cases hv
  · -- call
    rename_i c hx
    rw [hx]
    split at hv
    · cases hv
    · rename_i args hargs
      have ha := evs_ok he hargs
      split at hv
      · rename_i b hb
        obtain ⟨ρ', y, w', h1, h2, h3⟩ := builtinW_ok (P := P) (ty := o.type) (cs := c.args.map fun | .const _ => true | _ => false) ok r (args' := c.args.map e) (by simpa using ha) hv
        refine ⟨ρ', .value y, y, w', ?_, .inl rfl, h2, h3⟩
        simp only [resolve, hb, Sem.run_bind, Sem.run_pure, Result.andThen_ok, invoke]
        exact h1
      · cases hv
  · cases hv
end
end Go.Eng

/- The engine: calls and their like. -/
namespace Go.Eng
section
variable {P : Program} {E : Env} {ρ : Ren} {h : Heap} {w : World} {tm : Tr AV} {e : Operand → Value}

theorem next_none {fn : Func} (ho : fn.origin = "") (hn : (Extern.allNextRows.lookup fn.name).isNone = true) : Extern.findNext fn = none := by
  have h0 : (Extern.allNextRows.lookup "").isNone = true := by decide +kernel
  simp only [Option.isNone_iff_eq_none] at h0 hn
  simp [Extern.findNext, ho, hn, h0]

theorem find_row {fn : Func} {f : Array Value → Sem Value} (h1 : (Extern.allGenericRows.lookup fn.name).isNone = true) (h2 : (Extern.allTypedRows.lookup fn.name).isNone = true) (h3 : Extern.allRows.lookup fn.name = some f) :
    Extern.find fn = some f := by
  simp only [Option.isNone_iff_eq_none] at h1 h2
  simp [Extern.find, h1, h2, h3]

theorem extern_ok {fn : Func} {f : FuncId} {args : List AV} {args' : Array Value} {v : AV} (hf : P.funcs[f]? = some fn) (hb : fn.body = none) (ha : RL ρ args args'.toList) (hv : externA fn.name fn.origin args = some v) :
    ∃ y, (callFunc f args').run P w = .ok (.value y) w ∧ R ρ v y := by
  unfold externA at hv
  split at hv
  · cases hv
  · rename_i ho
    have ho : fn.origin = "" := by simpa using ho
    have hb' : fn.body.isNone = true := by simp [hb]
    split at hv
    · rename_i hname
      have hng : (fn.name == "runtime.NumGoroutine") = false := by rw [hname]; decide
      have hn := next_none ho (by rw [hname]; decide +kernel)
      have hfi : Extern.find fn = some Extern.AbiNoEscape.same := find_row (by rw [hname]; decide +kernel) (by rw [hname]; decide +kernel) (by rw [hname]; kernel_rfl)
      split at hv
      · rename_i p
        cases hv
        obtain ⟨x, rfl, hx⟩ := RL_one ha
        exact ⟨x, by rw [run_callFunc_extern hf hng hb' hn hfi]; rfl, hx⟩
      · cases hv
    · split at hv
      · rename_i hname
        have hng : (fn.name == "runtime.NumGoroutine") = false := by rw [hname]; decide
        have hn := next_none ho (by rw [hname]; decide +kernel)
        have hfi : Extern.find fn = some Extern.BytealgIndexByte.indexByte := find_row (by rw [hname]; decide +kernel) (by rw [hname]; decide +kernel) (by rw [hname]; kernel_rfl)
        split at hv
        · rename_i l c
          cases hv
          obtain ⟨x, y, rfl, hx, hy⟩ := RL_two ha
          simp only [R] at hx hy
          obtain ⟨rfl, _⟩ := hx
          subst hy
          refine ⟨.int .i64 (firstIdx (toB l) c.toNat.toUInt8), ?_, ?_⟩
          · rw [run_callFunc_extern hf hng hb' hn hfi, run_indexByte_string]
            rfl
          · simp only [R, firstIdx, idxB]
            congr 1
        · cases hv
      · split at hv
        · rename_i hname
          have hng : (fn.name == "runtime.NumGoroutine") = false := by rw [hname]; decide
          have hn := next_none ho (by rw [hname]; decide +kernel)
          have hfi : Extern.find fn = some Extern.BytealgCompare.compare := find_row (by rw [hname]; decide +kernel) (by rw [hname]; decide +kernel) (by rw [hname]; kernel_rfl)
          split at hv
          · rename_i a b
            cases hv
            obtain ⟨x, y, rfl, hx, hy⟩ := RL_two ha
            simp only [R] at hx hy
            obtain ⟨rfl, _⟩ := hx
            obtain ⟨rfl, _⟩ := hy
            refine ⟨.int .i64 (Extern.BytealgCompare.cmp (toB a) (toB b)), ?_, by simp [R]⟩
            rw [run_callFunc_extern hf hng hb' hn hfi]
            rfl
          · cases hv
        · cases hv

/-- The loop that a round is one of. -/
def LoopR (ρ : Ren) (r : ALoop) (r' : Loop) : Prop :=
  ∃ ld, r'.state = r.state ∧ r'.pending = r.pending ∧ r'.fn = r.fn ∧ r'.tmps.size = r.sz ∧ TR ρ r.tm r'.tmps ∧
      r'.params = r.params ∧ r'.assign = r.assign ∧ r'.body = r.body ∧ ρ r.defers = some ld ∧ r'.defers = ld.b

def OutR (_E : Env) (ρ : Ren) (h : Heap) (w : World) (res : Result Next) : Out → Prop
  | .val v => ∃ y, res = .ok (.value y) w ∧ R ρ v y
  | .enter g args => ∃ args', res = .ok (.enter g args') w ∧ RL ρ args args'.toList
  | .round n args => ∀ r, h.obj n = some (.loop r) → args.length = r.params.size → ∃ (l : Loc) (r' : Loop) (args' : Array Value), ρ n = some l ∧ w.heap[l.b]? = some (.loop r') ∧ LoopR ρ r r' ∧ RL ρ args args'.toList ∧
      res = .ok (.round l.b r'.fn ((r'.params.zip args').foldl (fun tmps (t, a) => tmps.setIfInBounds t a) r'.tmps) r'.assign r'.body) w
  | .defer d => ∃ d', res = .ok (.defer d') w ∧ DR ρ d d'
  | .recover => res = .ok .recover w
  | .panic v => ∃ y, res = .halt (.panic y) w ∧ R ρ v y

theorem callFunc_body (ok : EnvOK P E) {g : FuncId} {fn : Func} {c : Code} (hf : E.F.get g = some fn) (hb : fn.body = some c) (args : Array Value) :
    (callFunc g args).run P w = .ok (.enter g args) w := by
  have h1 := ok.F _ _ hf
  have h2 := ok.ng _ _ hf
  simp [callFunc, h1, h2, hb]

theorem aopC_ok (ok : EnvOK P E) (r : Rel E.nG ρ h w) (he : EvOK E.nG ρ tm e) {o : Oper} {out : Out} (hv : aopC E tm o.op = some out) :
    OutR E ρ h w ((execOp e o).run P w) out := by
  rw [aopC_def] at hv
  unfold aopC0 at hv
  unfold execOp
  split at hv
  · -- panic
    rename_i x hx
    rw [hx]
    split at hv
    · rename_i t v hu
      cases hv
      have hxu := he _ _ hu
      have hxu' := hxu
      simp only [R] at hxu
      obtain ⟨v', hxe, _⟩ := hxu
      refine ⟨e x, ?_, hxu'⟩
      show (do pure (Next.value (← Instr.panic (e x))) : Sem Next).run P w = _
      rw [hxe]
      simp [Instr.panic]
    · cases hv
  · -- defer
    rename_i c hx
    rw [hx]
    split at hv
    · rename_i args f ha hf
      split at hv
      · rename_i g first captured hu
        split at hv
        · rename_i fn hfn
          split at hv
          · rename_i c0 hb
            cases hv
            have hxu := he _ _ hu
            simp only [R] at hxu
            obtain ⟨a', b', hfe, h1, h2⟩ := hxu
            have hargs := evs_ok he ha
            refine ⟨{ target := .fn (.func g) b', args := a' ++ c.args.map e }, ?_, ?_⟩
            · simp only [resolve, hf, hfe, Deferred.ofValue, Sem.run_bind, Sem.run_pure, Result.andThen_ok]
            · refine ⟨_, _, rfl, ?_⟩
              simp only [Array.toList_append, Array.toList_map]
              exact RL_append (RL_append h1 hargs) h2
          · cases hv
        · cases hv
      · cases hv
    · cases hv
  · -- call
    rename_i c hx
    rw [hx]
    split at hv
    · cases hv
    · rename_i args ha
      have hargs := evs_ok he ha
      split at hv
      · rename_i hc
        cases hv
        show (do let d ← resolve e c o.type; invoke d.target d.args : Sem Next).run P w = _
        simp only [resolve, hc, Sem.run_bind, Sem.run_pure, Result.andThen_ok, invoke]
        rfl
      · rename_i f hc
        split at hv
        · rename_i g first captured hu
          have hxu := he _ _ hu
          simp only [R] at hxu
          obtain ⟨a', b', hfe, h1, h2⟩ := hxu
          have hrun : (do let d ← resolve e c o.type; invoke d.target d.args : Sem Next).run P w = (callFunc g (a' ++ c.args.map e ++ b')).run P w := by
            simp only [resolve, hc, hfe, Deferred.ofValue, Sem.run_bind, Sem.run_pure, Result.andThen_ok, invoke]
          have hall : RL ρ (first ++ args ++ captured) (a' ++ c.args.map e ++ b').toList := by
            simp only [Array.toList_append, Array.toList_map]
            exact RL_append (RL_append h1 hargs) h2
          split at hv
          · rename_i fn hfn
            split at hv
            · rename_i c0 hb
              cases hv
              exact ⟨_, hrun.trans (callFunc_body ok hfn hb _), hall⟩
            · rename_i hb
              split at hv
              · rename_i v hx
                cases hv
                obtain ⟨y, g1, g2⟩ := extern_ok (w := w) (ok.F _ _ hfn) hb hall hx
                exact ⟨y, hrun.trans g1, g2⟩
              · cases hv
          · cases hv
        · rename_i n hu
          cases hv
          have hxu := he _ _ hu
          simp only [R] at hxu
          obtain ⟨l, hl, hfe⟩ := hxu
          intro lr ho hlen
          obtain ⟨l', hl', hor⟩ := r.obj _ _ ho (by intro h; cases h)
          rw [hl] at hl'
          cases hl'
          obtain ⟨r', ld, hob, hloop⟩ := hor
          have hget : (getObj l.b).run P w = .ok (.loop r') w := by simp [getObj, Sem.run, hob]
          have hlen' : (c.args.map e).size = r'.params.size := by
            have := RL_length hargs
            rw [hloop.2.2.2.2.2.1, ← hlen, this]
            simp
          refine ⟨l, r', c.args.map e, hl, hob, ⟨ld, hloop⟩, by simpa using hargs, ?_⟩
          show (do let d ← resolve e c o.type; invoke d.target d.args : Sem Next).run P w = _
          simp only [resolve, hc, hfe, Deferred.ofValue, Sem.run_bind, Sem.run_pure, Result.andThen_ok, invoke, Instr.yield, Instr.getLoop, hget, Array.empty_append]
          rw [if_neg (by omega)]
          rfl
        · cases hv
      · cases hv
  · cases hv
end
end Go.Eng

/- The engine: its frames against the machine's. -/
namespace Go.Eng

def IR (ρ : Ren) : AItem → Item → Prop
  | .code c, x => x = .code c
  | .inBlock id, x => x = .inBlock id
  | .inLoop b, x => x = .inLoop b
  | .inScope b, x => x = .inScope b
  | .ops all rest, x => ∃ ops todo, x = .inRegion ops todo ∧ all = ops.toList ∧ rest.map some = todo.map (fun i => ops[i]?)
  | .inRange n, x => ∃ l, ρ n = some l ∧ x = .inRangeFunc l.b
  | .endRange n, x => ∃ l, ρ n = some l ∧ x = .endRangeFunc l.b
  | .beginRound, x => x = .beginRound

def IRL (ρ : Ren) : List AItem → List Item → Prop
  | [], l => l = []
  | a :: as, l => ∃ b bs, l = b :: bs ∧ IR ρ a b ∧ IRL ρ as bs

def PR' (ρ : Ren) : List (AV × Bool) → List PanicEntry → Prop
  | [], l => l = []
  | a :: as, l => ∃ x bs, l = { v := x, recovered := a.2, goexit := false } :: bs ∧ R ρ a.1 x ∧ PR' ρ as bs

def MR (ρ : Ren) : AMode → FrameMode → Prop
  | .run, m => m = .run
  | .ret, m => m = .returning
  | .pan ch, m => ∃ ch', m = .panicking ch' ∧ PR' ρ ch ch'

def RoR (ρ : Ren) : Option Nat → Option Nat → Prop
  | none, x => x = none
  | some n, x => ∃ l, ρ n = some l ∧ x = some l.b

structure FR (ρ : Ren) (a : AFrame) (f : Frame) : Prop where
  fn : f.fn = a.fn
  tm : TR ρ a.tm f.tmps
  sz : f.tmps.size = a.sz
  todo : a.mode = .run → IRL ρ a.todo f.todo
  ds : DRL ρ a.ds f.defers
  mode : MR ρ a.mode f.mode
  kind : f.kind = (if a.dfr then .deferred else .normal)
  rnd : RoR ρ a.rnd f.roundOf

def FsR (ρ : Ren) : List AFrame → List Frame → Prop
  | [], l => l = []
  | a :: as, l => ∃ b bs, l = b :: bs ∧ FR ρ a b ∧ FsR ρ as bs

section
variable {ρ ρ' : Ren}

theorem IR.mono (hle : ρ.le ρ') : ∀ {a : AItem} {x : Item}, IR ρ a x → IR ρ' a x := by
  intro a x h
  cases a <;> simp only [IR] at h ⊢ <;> first | exact h | (obtain ⟨l, h1, h2⟩ := h; exact ⟨l, hle _ _ h1, h2⟩)

theorem IRL.mono (hle : ρ.le ρ') : ∀ {a : List AItem} {x : List Item}, IRL ρ a x → IRL ρ' a x
  | [], _x, h => h
  | _a :: _as, _x, ⟨b, bs, h1, h2, h3⟩ => ⟨b, bs, h1, h2.mono hle, h3.mono hle⟩

theorem PR'.mono (hle : ρ.le ρ') : ∀ {a : List (AV × Bool)} {x : List PanicEntry}, PR' ρ a x → PR' ρ' a x
  | [], _x, h => h
  | _a :: _as, _x, ⟨b, bs, h1, h2, h3⟩ => ⟨b, bs, h1, R_mono hle _ _ h2, h3.mono hle⟩

theorem PR'.append : ∀ {a c : List (AV × Bool)} {x y : List PanicEntry}, PR' ρ a x → PR' ρ c y → PR' ρ (a ++ c) (x ++ y)
  | [], c, x, y, h, h' => by simp only [PR'] at h; subst h; exact h'
  | a :: as, c, x, y, ⟨b, bs, h1, h2, h3⟩, h' => by subst h1; exact ⟨b, bs ++ y, rfl, h2, h3.append h'⟩

theorem MR.mono (hle : ρ.le ρ') {a : AMode} {x : FrameMode} (h : MR ρ a x) : MR ρ' a x := by
  cases a with
  | run => exact h
  | ret => exact h
  | pan ch => obtain ⟨c, h1, h2⟩ := h; exact ⟨c, h1, h2.mono hle⟩

theorem RoR.mono (hle : ρ.le ρ') {a x : Option Nat} (h : RoR ρ a x) : RoR ρ' a x := by
  cases a with
  | none => exact h
  | some n => obtain ⟨l, h1, h2⟩ := h; exact ⟨l, hle _ _ h1, h2⟩

theorem FR.mono (hle : ρ.le ρ') {a : AFrame} {f : Frame} (h : FR ρ a f) : FR ρ' a f :=
  ⟨h.fn, h.tm.mono hle, h.sz, fun hm => (h.todo hm).mono hle, h.ds.mono hle, h.mode.mono hle, h.kind, h.rnd.mono hle⟩

theorem FsR.mono (hle : ρ.le ρ') : ∀ {a : List AFrame} {x : List Frame}, FsR ρ a x → FsR ρ' a x
  | [], _x, h => h
  | _a :: _as, _x, ⟨b, bs, h1, h2, h3⟩ => ⟨b, bs, h1, h2.mono hle, h3.mono hle⟩

theorem exit_ok {id : Nat} : ∀ {k : List AItem} {K : List Item}, IRL ρ k K → match aexitTo id k with
    | some k' => ∃ K', exitTo id K = some K' ∧ IRL ρ k' K'
    | none => exitTo id K = none
  | [], K, h => by simp only [IRL] at h; subst h; simp [aexitTo, exitTo]
  | a :: as, K, ⟨b, bs, h1, h2, h3⟩ => by
    subst h1
    have ih := exit_ok (id := id) h3
    cases a with
    | inBlock id' =>
      simp only [IR] at h2
      subst h2
      simp only [aexitTo, exitTo]
      by_cases e : id' = id
      · subst e
        rw [show Nat.beq id' id' = true from by rw [Nat.beq_eq]]
        simp only [beq_self_eq_true, if_true]
        exact ⟨bs, rfl, h3⟩
      · have e1 : Nat.beq id' id = false := by
          cases hb : Nat.beq id' id with
          | false => rfl
          | true => rw [Nat.beq_eq] at hb; exact absurd hb e
        have e2 : (id' == id) = false := by simpa using e
        rw [e1, e2]
        exact ih
    | ops all rest => simp only [IR] at h2; obtain ⟨_, _, rfl, _⟩ := h2; simpa [aexitTo, exitTo] using ih
    | inRange n => simp only [IR] at h2; obtain ⟨_, _, rfl⟩ := h2; simpa [aexitTo, exitTo] using ih
    | endRange n => simp only [IR] at h2; obtain ⟨_, _, rfl⟩ := h2; simpa [aexitTo, exitTo] using ih
    | _ => simp only [IR] at h2; subst h2; simpa [aexitTo, exitTo] using ih

theorem goto_ok {l : Nat} : ∀ {k : List AItem} {K : List Item}, IRL ρ k K → match agotoIn l k with
    | some k' => ∃ K', gotoIn l K = some K' ∧ IRL ρ k' K'
    | none => gotoIn l K = none
  | [], K, h => by simp only [IRL] at h; subst h; simp [agotoIn, gotoIn]
  | a :: as, K, ⟨b, bs, h1, h2, h3⟩ => by
    subst h1
    have ih := goto_ok (l := l) h3
    cases a with
    | inScope body =>
      simp only [IR] at h2
      subst h2
      simp only [agotoIn, gotoIn]
      cases findLabel body l with
      | some rest => exact ⟨_, rfl, _, _, rfl, rfl, _, _, rfl, rfl, h3⟩
      | none => exact ih
    | ops all rest => simp only [IR] at h2; obtain ⟨_, _, rfl, _⟩ := h2; simpa [agotoIn, gotoIn] using ih
    | inRange n => simp only [IR] at h2; obtain ⟨_, _, rfl⟩ := h2; simpa [agotoIn, gotoIn] using ih
    | endRange n => simp only [IR] at h2; obtain ⟨_, _, rfl⟩ := h2; simpa [agotoIn, gotoIn] using ih
    | _ => simp only [IR] at h2; subst h2; simpa [agotoIn, gotoIn] using ih

def putC (tmps : Array Value) (dst : Option Tmp) (x : Value) : Array Value :=
  match dst with
  | some d => tmps.setIfInBounds d x
  | none => tmps

/-- A temporary is written. -/
theorem put_ok {sz : Nat} {tm tm' : Tr AV} {dst : Option Tmp} {v : AV} {x : Value} {tmps : Array Value} (ht : TR ρ tm tmps) (hsz : tmps.size = sz) (hv : R ρ v x) (hp : putT sz tm dst v = some tm') :
    TR ρ tm' (putC tmps dst x) ∧ (putC tmps dst x).size = sz := by
  unfold putT at hp
  unfold putC
  cases dst with
  | none => cases hp; exact ⟨ht, hsz⟩
  | some d =>
    simp only [] at hp ⊢
    split at hp
    · rename_i hd
      rw [Nat.blt_eq] at hd
      cases hp
      exact ⟨ht.set (by omega) hv, by simpa using hsz⟩
    · cases hp

theorem finish_ok {a a' : AFrame} {f : Frame} {v : AV} {x : Value} (hf : FR ρ a f) (hv : R ρ v x) (h : finishA a v = some a') : FR ρ a' (f.finish x) := by
  unfold finishA at h
  split at h
  case h_2 => cases h
  rename_i hmode
  have htodo := hf.todo hmode
  split at h
  · rename_i all o rest k htd
    rw [htd] at htodo
    obtain ⟨b, bs, h1, h2, h3⟩ := htodo
    obtain ⟨ops, todo, rfl, h4, h5⟩ := h2
    split at h
    · rename_i tm hp
      cases h
      cases todo with
      | nil => simp at h5
      | cons i is =>
        simp only [List.map_cons, List.cons.injEq] at h5
        have hoi : ops[i]? = some o := h5.1.symm
        obtain ⟨p1, p2⟩ := put_ok hf.tm hf.sz hv hp
        have : f.finish x = { f with tmps := putC f.tmps o.dst x, todo := .inRegion ops is :: bs } := by
          unfold Frame.finish
          rw [h1]
          simp [hoi, putC]
          cases o.dst <;> rfl
        rw [this]
        exact ⟨hf.fn, p1, p2, fun _ => ⟨_, _, rfl, ⟨ops, is, rfl, h4, h5.2⟩, h3⟩, hf.ds, hf.mode, hf.kind, hf.rnd⟩
    · cases h
  · rename_i l k htd
    rw [htd] at htodo
    obtain ⟨b, bs, h1, ⟨lo, h2, rfl⟩, h3⟩ := htodo
    cases h
    have : f.finish x = { f with todo := .endRangeFunc lo.b :: bs } := by
      unfold Frame.finish
      rw [h1]
    rw [this]
    exact ⟨hf.fn, hf.tm, hf.sz, fun _ => ⟨_, _, rfl, ⟨lo, h2, rfl⟩, h3⟩, hf.ds, hf.mode, hf.kind, hf.rnd⟩
  · cases h

theorem raise_ok {a : AFrame} {f : Frame} {vs : List (AV × Bool)} {xs : List PanicEntry} (hf : FR ρ a f) (hv : PR' ρ vs xs) : FR ρ (raiseA a vs) (f.raise xs) := by
  have hm := hf.mode
  unfold raiseA
  unfold Frame.raise
  split
  · rename_i chain hmo
    rw [hmo] at hm
    obtain ⟨ch, h1, h2⟩ := hm
    rw [h1]
    exact ⟨hf.fn, hf.tm, hf.sz, (fun h => by cases h), hf.ds, ⟨_, rfl, hv.append h2⟩, hf.kind, hf.rnd⟩
  · rename_i hno
    split
    · rename_i chain hfm
      cases hmo : a.mode with
      | pan c => exact absurd hmo (hno c)
      | run => rw [hmo] at hm; simp only [MR] at hm; rw [hm] at hfm; cases hfm
      | ret => rw [hmo] at hm; simp only [MR] at hm; rw [hm] at hfm; cases hfm
    · exact ⟨hf.fn, hf.tm, hf.sz, (fun h => by cases h), hf.ds, ⟨_, rfl, hv⟩, hf.kind, hf.rnd⟩

/-- What a guard asks, in the model. -/
theorem wanted_ok {ops : Array Oper} {all : List Oper} {tm : Tr AV} {tmps : Array Value} {o : Oper} {b : Bool} (hall : all = ops.toList) (ht : ∀ t v, tm.get t = some v → (∀ j w p, o.guard = some (j, w) → ops[j]? = some p → p.dst = some t → R ρ v (tmps.getD t undef))) (hw : wantedA all tm o = some b) :
    Region.wanted o (yielded ops tmps) = b := by
  unfold wantedA at hw
  unfold Region.wanted
  split at hw
  · rename_i hg
    rw [hg]
    cases hw
    rfl
  · rename_i j want hg
    rw [hg]
    simp only []
    subst hall
    rw [lget_eq] at hw
    rw [Array.getElem?_toList] at hw
    split at hw
    · rename_i p hp
      split at hw
      · rename_i d hd
        split at hw
        · rename_i bb hb
          cases hw
          have := ht _ _ hb j want p hg hp hd
          simp only [R] at this
          have hin : tmps[d]? = some (.bool bb) := by
            rw [Array.getD_eq_getD_getElem?] at this
            cases hq : tmps[d]? with
            | none => rw [hq] at this; simp [undef] at this
            | some z => rw [hq] at this; simpa using this
          simp [yielded, hp, hd, hin]
        · rename_i hb
          cases hw
          have := ht _ _ hb j want p hg hp hd
          simp only [R, RL] at this
          obtain ⟨vs', h1, h2⟩ := this
          have hne : yielded ops tmps j = none := by
            rw [Array.getD_eq_getD_getElem?] at h1
            unfold yielded
            rw [hp]
            simp only [Option.bind_some, hd]
            cases hq : tmps[d]? with
            | none => rfl
            | some z =>
              rw [hq] at h1
              simp only [Option.getD_some] at h1
              rw [h1]
          rw [hne]
          rfl
        · cases hw
      · rename_i hd
        cases hw
        simp [yielded, hp, hd]
    · rename_i hp
      cases hw
      simp [yielded, hp]
end
end Go.Eng

/- The engine: a run of operations against the machine's steps. -/
namespace Go.Eng
section
variable {P : Program} {E : Env} {ρ : Ren} {h : Heap} {w : World} {tm : Tr AV}

theorem ev_ok (r : RelQ E.nG ρ h w) {f : Frame} (ht : TR ρ tm f.tmps) : EvOK E.nG ρ tm f.eval := by
  intro x v hv
  unfold ev at hv
  split at hv
  · exact ht _ _ hv
  · cases hv; exact R_ofV _
  · rename_i g
    split at hv
    · rename_i hg
      rw [Nat.blt_eq] at hg
      cases hv
      obtain ⟨l, h1, h2, h3⟩ := r.glob g hg
      simp only [R, Frame.eval]
      exact ⟨l, h1, by simp [Loc.at, h2, h3]⟩
    · cases hv
  · cases hv
    simp only [R, Frame.eval, RL]
    exact ⟨#[], #[], rfl, rfl, rfl⟩

variable {fr : Frame} {cs : List Frame} {ops : Array Oper} {i : Nat} {todo : List Nat} {k : List Item} {o : Oper}

theorem stepG_oper (hm : fr.mode = .run) (ht : fr.todo = .inRegion ops (i :: todo) :: k) (ho : ops[i]? = some o) (hw : Region.wanted o (yielded ops fr.tmps) = true)
    (hd : fr.roundOf = none ∨ ∀ c, o.op ≠ .defer c) :
    stepG P true { frame := fr, callers := cs, status := .running, dying := none } w = stepG.apply P true fr cs none (execOp fr.eval o) w := by
  have hoper : fr.oper? = some o := by simp [Frame.oper?, ht, ho]
  have h1 : stepG P true { frame := fr, callers := cs, status := .running, dying := none } w = stepG.oper P true fr cs none w := by
    simp only [stepG, hm, stepG.exec, ht, ho, Option.map_some, Option.getD_some, hw, if_true]
  rw [h1]
  simp only [stepG.oper, hoper]
  rcases hd with hd | hd
  · rw [hd]
  · split
    · rename_i l c _ hc
      exact absurd hc (hd c)
    · rfl

theorem kind_normal (ht : fr.todo = .inRegion ops (i :: todo) :: k) : (match fr.todo with | .call _ true _ _ :: _ => CallKind.wrapped | _ => .normal) = .normal := by rw [ht]

section
variable (hm : fr.mode = .run) (ht : fr.todo = .inRegion ops (i :: todo) :: k) (ho : ops[i]? = some o) (hw : Region.wanted o (yielded ops fr.tmps) = true)
  (hd : fr.roundOf = none ∨ ∀ c, o.op ≠ .defer c)
include hm ht ho hw hd

theorem step_value {v : Value} {w' : World} (hr : (execOp fr.eval o).run P w = .ok (.value v) w') : step P (lone fr cs w) = .next (lone (fr.finish v) cs w') :=
  step_lone_go (by rw [stepG_oper hm ht ho hw hd]; simp [stepG.apply, hr])

theorem step_skipped {w' : World} (hr : (execOp fr.eval o).run P w = .ok .skip w') : step P (lone fr cs w) = .next (lone (fr.finish undef) cs w') :=
  step_lone_go (by rw [stepG_oper hm ht ho hw hd]; simp [stepG.apply, hr])

theorem step_enter {g : FuncId} {args : Array Value} {w' : World} (hr : (execOp fr.eval o).run P w = .ok (.enter g args) w') :
    step P (lone fr cs w) = .next (lone (Frame.enter P g args .normal) (fr :: cs) w') :=
  step_lone_go (by rw [stepG_oper hm ht ho hw hd]; simp [stepG.apply, hr, ht])

theorem step_round {l : Nat} {f : FuncId} {tmps : Array Value} {a b : Code} {w' : World} (hr : (execOp fr.eval o).run P w = .ok (.round l f tmps a b) w') :
    step P (lone fr cs w) = .next (lone (Frame.round l f tmps a b .normal) (fr :: cs) w') :=
  step_lone_go (by rw [stepG_oper hm ht ho hw hd]; simp [stepG.apply, hr])

theorem step_defer {d : Deferred} {w' : World} (hr : (execOp fr.eval o).run P w = .ok (.defer d) w') :
    step P (lone fr cs w) = .next (lone ({ fr with defers := d :: fr.defers }.finish undef) cs w') :=
  step_lone_go (by rw [stepG_oper hm ht ho hw hd]; simp [stepG.apply, hr])

theorem step_panic {v : Value} {w' : World} (hr : (execOp fr.eval o).run P w = .halt (.panic v) w') :
    step P (lone fr cs w) = .next (lone (fr.raise [{ v, recovered := false }]) cs w') :=
  step_lone_go (by rw [stepG_oper hm ht ho hw hd]; simp [stepG.apply, hr])

theorem step_recover {w' : World} (hn : fr.roundOf = none) (hr : (execOp fr.eval o).run P w = .ok .recover w') :
    step P (lone fr cs w) = .next (match tryRecover fr cs with
      | some (v, cs') => lone (fr.finish v) cs' w'
      | none => lone (fr.finish .nilIface) cs w') := by
  cases htr : tryRecover fr cs with
  | none => exact step_lone_go (by rw [stepG_oper hm ht ho hw hd]; simp [stepG.apply, hr, hn, htr])
  | some p => exact step_lone_go (by rw [stepG_oper hm ht ho hw hd]; simp [stepG.apply, hr, hn, htr])
end

theorem step_unwanted (hm : fr.mode = .run) (ht : fr.todo = .inRegion ops (i :: todo) :: k) (ho : ops[i]? = some o) (hw : Region.wanted o (yielded ops fr.tmps) = false) :
    step P (lone fr cs w) = .next (lone (fr.finish undef) cs w) :=
  step_lone_go (by simp [stepG, hm, stepG.exec, ht, ho, hw])

theorem step_rend (hm : fr.mode = .run) (ht : fr.todo = .inRegion ops [] :: k) : step P (lone fr cs w) = .next (lone { fr with todo := k } cs w) :=
  step_lone_go (by simp [stepG, hm, stepG.exec, ht])

/-- One operation that is done at once. -/
theorem aop_ok (ok : EnvOK P E) (r : Rel E.nG ρ h w) {e : Operand → Value} (he : EvOK E.nG ρ tm e) {v : AV} {h' : Heap} (hv : aop E tm h o.op = some (.val v h')) :
    Did P E.nG ρ h w (execOp e o) v h' := by
  unfold aop at hv
  split at hv
  · split at hv
    · rename_i u hu
      cases hv
      obtain ⟨y, h1, h2⟩ := aopQ_ok ok r.q he hu
      exact ⟨ρ, _, y, w, h1, .inl rfl, h2, r, Ext.refl _ _ _⟩
    · cases hv
  · split at hv
    · rename_i u ob hu
      cases hv
      obtain ⟨y, ob', c, s, h1, h2⟩ := aopA_ok (w := w) ok he hu
      obtain ⟨k1, k2⟩ := new_any (w' := w.alloc ob') (o := ob) (ob := ob') (c := c) (s := s) r (by show (w.heap.push _).size = _; simp) (fun b hb => by
          show (w.heap.push _)[b]? = _
          rw [Array.getElem?_push, if_neg (by omega)]) (by show (w.heap.push _)[w.heap.size]? = _; simp) (fun ρ' hle hn => (h2 ρ' hle hn).2)
      exact ⟨_, _, y, _, h1, .inl rfl, (h2 _ (Ren.le_put _ r.none) (Ren.put_same _ _ _)).1, k1, k2⟩
    · cases hv
  · split at hv
    · rename_i u h1 hu
      cases hv
      exact aopW_ok ok r he hu
    · cases hv
  · split at hv
    · rename_i u hu
      cases hv
      obtain ⟨y, h1, h2⟩ := aopC_ok ok r he hu
      exact ⟨ρ, _, y, w, h1, .inl rfl, h2, r, Ext.refl _ _ _⟩
    · cases hv
    · cases hv

theorem kind_defer {c : Call} : kindOf E (.defer c) = .c := rfl

theorem notDefer {v : AV} {h' : Heap} (hv : aop E tm h o.op = some (.val v h')) : ∀ c, o.op ≠ .defer c := by
  intro c hc
  rw [hc] at hv
  unfold aop at hv
  rw [kind_defer] at hv
  simp only [] at hv
  split at hv
  · rename_i u hu
    rw [aopC_def] at hu
    unfold aopC0 at hu
    simp only [] at hu
    split at hu
    · split at hu
      · split at hu
        · split at hu
          · cases hu
          · cases hu
        · cases hu
      · cases hu
    · cases hu
  · cases hv
  · cases hv

/-- What a step of the machine does with what an operation is done with. -/
theorem step_did (hm : fr.mode = .run) (ht : fr.todo = .inRegion ops (i :: todo) :: k) (ho : ops[i]? = some o) (hw : Region.wanted o (yielded ops fr.tmps) = true)
    (hd : fr.roundOf = none ∨ ∀ c, o.op ≠ .defer c) {nx : Next} {y : Value} {w' : World} (hr : (execOp fr.eval o).run P w = .ok nx w') (hn : nx = .value y ∨ nx = .skip ∧ y = undef) :
    step P (lone fr cs w) = .next (lone (fr.finish y) cs w') := by
  rcases hn with rfl | ⟨rfl, rfl⟩
  · exact step_value hm ht ho hw hd hr
  · exact step_skipped hm ht ho hw hd hr

def ResR (P : Program) (E : Env) (ρ : Ren) (h : Heap) (w : World) (a : AFrame) (k : List AItem) (all : List Oper) (fr : Frame) : ROut → Prop
  | .done tm' h' => ∃ ρ' fr' w', FR ρ' { a with tm := tm', todo := k } fr' ∧ Rel E.nG ρ' h' w' ∧ Ext ρ h w ρ' h' w' ∧ ∀ cs, Steps P (lone fr cs w) (lone fr' cs w')
  | .stop rest' tm' h' out => ∃ ρ' fr' w', FR ρ' { a with tm := tm', todo := .ops all rest' :: k } fr' ∧ Rel E.nG ρ' h' w' ∧ Ext ρ h w ρ' h' w' ∧ (∀ cs, Steps P (lone fr cs w) (lone fr' cs w')) ∧
      ∃ ops i todo k' o, fr'.mode = .run ∧ fr'.todo = .inRegion ops (i :: todo) :: k' ∧ ops[i]? = some o ∧ Region.wanted o (yielded ops fr'.tmps) = true ∧ aopC E tm' o.op = some out ∧ (∀ v, out ≠ .val v) ∧
        OutR E ρ' h' w' ((execOp fr'.eval o).run P w') out

theorem runOps_ok (ok : EnvOK P E) {a : AFrame} {all : List Oper} {k : List AItem} (hmode : a.mode = .run) : ∀ {rest : List Oper} {tm : Tr AV} {h : Heap} {ρ : Ren} {w : World} {fr : Frame} {res : ROut},
    FR ρ { a with tm := tm, todo := .ops all rest :: k } fr → Rel E.nG ρ h w → runOps E a.sz all rest tm h = some res → ResR P E ρ h w a k all fr res := by
  intro rest
  induction rest with
  | nil =>
    intro tm h ρ w fr res hf r hv
    simp only [runOps, Option.some.injEq] at hv
    subst hv
    obtain ⟨b, bs, h1, ⟨ops, todo, rfl, h4, h5⟩, h3⟩ := hf.todo hmode
    have h5' : todo = [] := by simpa using h5.symm
    subst h5'
    have hm : fr.mode = .run := by have := hf.mode; rw [hmode] at this; exact this
    exact ⟨ρ, { fr with todo := bs }, w, ⟨hf.fn, hf.tm, hf.sz, fun _ => h3, hf.ds, hf.mode, hf.kind, hf.rnd⟩, r, Ext.refl _ _ _, fun cs => .one (step_rend hm h1)⟩
  | cons o rest ih =>
    intro tm h ρ w fr res hf r hv
    have hm : fr.mode = .run := by have := hf.mode; rw [hmode] at this; exact this
    obtain ⟨b, bs, h1, ⟨ops, todo, hb, h4, h5⟩, h3⟩ := hf.todo hmode
    subst hb
    cases todo with
    | nil => simp at h5
    | cons i is =>
      simp only [List.map_cons, List.cons.injEq] at h5
      have hoi : ops[i]? = some o := h5.1.symm
      simp only [runOps] at hv
      split at hv
      · cases hv
      · -- unwanted
        rename_i hwa
        have hw := wanted_ok (ρ := ρ) h4 (fun t v hg _ _ _ _ _ _ => hf.tm t v hg) hwa
        split at hv
        · rename_i tm' hp
          have hfin : finishA { a with tm := tm, todo := .ops all (o :: rest) :: k } (.tup []) = some { a with tm := tm', todo := .ops all rest :: k } := by
            simp [finishA, hp, hmode]
          have hf' := finish_ok (x := undef) hf (by simp [R, RL, undef]) hfin
          have hst : ∀ cs, step P (lone fr cs w) = .next (lone (fr.finish undef) cs w) := fun cs => step_unwanted hm h1 hoi hw
          have := ih hf' r hv
          revert this
          cases res with
          | done tm2 h2 =>
            rintro ⟨ρ', fr', w', g1, g2, g3, g4⟩
            exact ⟨ρ', fr', w', g1, g2, g3, fun cs => .head (hst cs) (g4 cs)⟩
          | stop r2 tm2 h2 o2 =>
            rintro ⟨ρ', fr', w', g1, g2, g3, g4, g5⟩
            exact ⟨ρ', fr', w', g1, g2, g3, fun cs => .head (hst cs) (g4 cs), g5⟩
        · cases hv
      · -- wanted
        rename_i hwa
        have hw := wanted_ok (ρ := ρ) h4 (fun t v hg _ _ _ _ _ _ => hf.tm t v hg) hwa
        have he := ev_ok (E := E) (h := h) (w := w) r.q (f := fr) hf.tm
        split at hv
        · cases hv
        · rename_i v h' hop
          split at hv
          · rename_i tm' hp
            obtain ⟨ρ1, nx, y, w1, d1, d2, d3, d4, d5⟩ := aop_ok ok r he hop
            have hfin : finishA { a with tm := tm, todo := .ops all (o :: rest) :: k } v = some { a with tm := tm', todo := .ops all rest :: k } := by
              simp [finishA, hp, hmode]
            have hf' := finish_ok (x := y) (hf.mono d5.le) d3 hfin
            have hst : ∀ cs, step P (lone fr cs w) = .next (lone (fr.finish y) cs w1) := fun cs => step_did hm h1 hoi hw (.inr (notDefer hop)) d1 d2
            have := ih hf' d4 hv
            revert this
            cases res with
            | done tm2 h2 =>
              rintro ⟨ρ', fr', w', g1, g2, g3, g4⟩
              exact ⟨ρ', fr', w', g1, g2, Ext.trans r d4 d5 g3, fun cs => .head (hst cs) (g4 cs)⟩
            | stop r2 tm2 h2 o2 =>
              rintro ⟨ρ', fr', w', g1, g2, g3, g4, g5⟩
              exact ⟨ρ', fr', w', g1, g2, Ext.trans r d4 d5 g3, fun cs => .head (hst cs) (g4 cs), g5⟩
          · cases hv
        · rename_i out hop
          cases hv
          have hC : aopC E tm o.op = some out ∧ ∀ v, out ≠ .val v := by
            unfold aop at hop
            split at hop
            · split at hop <;> cases hop
            · split at hop <;> cases hop
            · split at hop <;> cases hop
            · split at hop
              · cases hop
              · rename_i out' hno hu
                cases hop
                exact ⟨hu, fun v hv => hno v hv⟩
              · cases hop
          exact ⟨ρ, fr, w, hf, r, Ext.refl _ _ _, fun cs => .refl _ _, ops, i, is, bs, o, hm, h1, hoi, hw, hC.1, hC.2, aopC_ok ok r he hC.1⟩
end
end Go.Eng

/- The engine: calls out of a run of operations, and the ends of frames. -/
namespace Go.Eng

def mk (fs : List Frame) (w : World) : Machine :=
  match fs with
  | f :: cs => lone f cs w
  | [] => lone default [] w

structure St (E : Env) (ρ : Ren) (c : Cfg) (fs : List Frame) (w : World) : Prop where
  fin : c.fin = none
  frs : FsR ρ c.fs fs
  rel : Rel E.nG ρ c.h w

/-- What a step comes to: other frames, or a value for who called. -/
def Nx (P : Program) (E : Env) (ρ : Ren) (h : Heap) (w : World) (fs : List Frame) (c' : Cfg) : Prop :=
  (∃ ρ' fs' w', St E ρ' c' fs' w' ∧ c'.fs ≠ [] ∧ Ext ρ h w ρ' c'.h w' ∧ ∀ cs0, Steps P (mk (fs ++ cs0) w) (mk (fs' ++ cs0) w')) ∨
  (∃ ρ' v x w', c'.fs = [] ∧ c'.fin = some v ∧ R ρ' v x ∧ Rel E.nG ρ' c'.h w' ∧ Ext ρ h w ρ' c'.h w' ∧ ∀ c0 cs1, Steps P (mk (fs ++ c0 :: cs1) w) (mk (c0.finish x :: cs1) w'))

section
variable {P : Program} {E : Env} {ρ ρ' : Ren} {h h' : Heap} {w w' : World} {tm : Tr AV}

theorem nx_top {a' : AFrame} {as : List AFrame} {fr fr' : Frame} {cs : List Frame} (hf' : FR ρ' a' fr') (hcs : FsR ρ' as cs) (r' : Rel E.nG ρ' h' w') (x : Ext ρ h w ρ' h' w')
    (hs : ∀ cs0, Steps P (lone fr (cs ++ cs0) w) (lone fr' (cs ++ cs0) w')) : Nx P E ρ h w (fr :: cs) ⟨a' :: as, h', none⟩ :=
  .inl ⟨ρ', fr' :: cs, w', ⟨rfl, ⟨_, _, rfl, hf', hcs⟩, r'⟩, by simp, x, hs⟩

theorem nx_push {a0 a' : AFrame} {as : List AFrame} {fr f0 fr' : Frame} {cs : List Frame} (hf0 : FR ρ' a0 f0) (hf' : FR ρ' a' fr') (hcs : FsR ρ' as cs) (r' : Rel E.nG ρ' h' w') (x : Ext ρ h w ρ' h' w')
    (hs : ∀ cs0, Steps P (lone fr (cs ++ cs0) w) (lone f0 (fr' :: (cs ++ cs0)) w')) : Nx P E ρ h w (fr :: cs) ⟨a0 :: a' :: as, h', none⟩ :=
  .inl ⟨ρ', f0 :: fr' :: cs, w', ⟨rfl, ⟨_, _, rfl, hf0, _, _, rfl, hf', hcs⟩, r'⟩, by simp, x, hs⟩

theorem Nx.of_steps {fr fr' : Frame} {cs : List Frame} {c' : Cfg} (r : Rel E.nG ρ h w) (r' : Rel E.nG ρ' h' w') (x : Ext ρ h w ρ' h' w') (hs : ∀ cs0, Steps P (lone fr cs0 w) (lone fr' cs0 w'))
    (hn : Nx P E ρ' h' w' (fr' :: cs) c') : Nx P E ρ h w (fr :: cs) c' := by
  rcases hn with ⟨ρ2, fs2, w2, h1, h2, h3, h4⟩ | ⟨ρ2, v, y, w2, h1, h2, h3, h4, h5, h6⟩
  · exact .inl ⟨ρ2, fs2, w2, h1, h2, Ext.trans r r' x h3, fun cs0 => (hs (cs ++ cs0)).trans (h4 cs0)⟩
  · exact .inr ⟨ρ2, v, y, w2, h1, h2, h3, h4, Ext.trans r r' x h5, fun c0 cs1 => (hs (cs ++ c0 :: cs1)).trans (h6 c0 cs1)⟩

/-- A frame ends with a value. -/
theorem doRet_ok {as : List AFrame} {fr : Frame} {cs : List Frame} {v : AV} {x : Value} {c' : Cfg} (hcs : FsR ρ' as cs) (hx : R ρ' v x) (r' : Rel E.nG ρ' h' w') (ext : Ext ρ h w ρ' h' w')
    (hs : ∀ c0 cs1, Steps P (lone fr (c0 :: cs1) w) (lone (c0.finish x) cs1 w')) (hv : doRet as h' v = some c') : Nx P E ρ h w (fr :: cs) c' := by
  unfold doRet at hv
  split at hv
  · rename_i c as'
    obtain ⟨b, bs, rfl, h1, h2⟩ := hcs
    split at hv
    · rename_i c1 hfin
      cases hv
      exact .inl ⟨ρ', b.finish x :: bs, w', ⟨rfl, ⟨_, _, rfl, finish_ok h1 hx hfin, h2⟩, r'⟩, by simp, ext, fun cs0 => hs b (bs ++ cs0)⟩
    · cases hv
  · cases hv
    simp only [FsR] at hcs
    subst hcs
    exact .inr ⟨ρ', v, x, w', rfl, rfl, hx, r', ext, fun c0 cs1 => hs c0 cs1⟩

theorem setArgs_get : ∀ (vs : List AV) (t : Tr AV) (i j : Nat), (setArgs i vs t).get j = if i ≤ j ∧ j < i + vs.length then vs[j - i]? else t.get j
  | [], t, i, j => by
    simp only [setArgs, List.length_nil]
    rw [if_neg (by omega)]
  | v :: vs, t, i, j => by
    simp only [setArgs, List.length_cons]
    rw [setArgs_get vs _ (i + 1) j, Tr.get_set]
    by_cases h1 : i + 1 ≤ j ∧ j < i + 1 + vs.length
    · rw [if_pos h1, if_pos (by omega), show j - i = (j - (i + 1)) + 1 from by omega]
      simp
    · rw [if_neg h1]
      by_cases h2 : j = i
      · subst h2
        rw [if_pos rfl, if_pos (by omega)]
        simp
      · rw [if_neg h2, if_neg (by omega)]

theorem enter_ok (ok : EnvOK P E) {g : FuncId} {args : List AV} {args' : Array Value} {a : AFrame} (ha : RL ρ args args'.toList) (hE : enterA E g args = some a) :
    FR ρ a (Frame.enter P g args' .normal) ∧ FR ρ { a with dfr := true } (Frame.enter P g args' .deferred) := by
  unfold enterA at hE
  split at hE
  · rename_i fn hfn
    split at hE
    · rename_i c hb
      cases hE
      have hP := ok.F _ _ hfn
      have hlen := RL_length ha
      have htm : TR ρ (setArgs 0 args .nil) (args' ++ Array.replicate (fn.ntmps - args'.size) undef) := by
        intro t v hv
        rw [setArgs_get] at hv
        split at hv
        · rename_i hin
          rw [Nat.sub_zero] at hv
          obtain ⟨y, h1, h2⟩ := RL_get ha (by rw [lget_eq]; exact hv)
          have : (args' ++ Array.replicate (fn.ntmps - args'.size) undef).getD t undef = y := by
            rw [Array.getD_eq_getD_getElem?, Array.getElem?_append_left (by simp at hlen; omega)]
            rw [Array.getElem?_toList] at h1
            rw [h1]
            rfl
          rw [this]
          exact h2
        · rw [Tr.get_nil] at hv
          cases hv
      have hsz : (args' ++ Array.replicate (fn.ntmps - args'.size) undef).size = max fn.ntmps args.length := by
        simp at hlen
        simp
        omega
      constructor
      · exact ⟨rfl, by simpa [Frame.enter, hP] using htm, by simpa [Frame.enter, hP] using hsz, fun _ => ⟨_, _, rfl, by simp [IR, hP, hb], rfl⟩, rfl, rfl, rfl, rfl⟩
      · exact ⟨rfl, by simpa [Frame.enter, hP] using htm, by simpa [Frame.enter, hP] using hsz, fun _ => ⟨_, _, rfl, by simp [IR, hP, hb], rfl⟩, rfl, rfl, rfl, rfl⟩
    · cases hE
  · cases hE

theorem setParams_ok {sz : Nat} : ∀ {l : List (Tmp × AV)} {l' : List (Tmp × Value)} {t t' : Tr AV} {tmps : Array Value}, l.map (·.1) = l'.map (·.1) → RL ρ (l.map (·.2)) (l'.map (·.2)) → TR ρ t tmps → tmps.size = sz → setParams sz l t = some t' →
    TR ρ t' (l'.foldl (fun tmps (t, a) => tmps.setIfInBounds t a) tmps) ∧ (l'.foldl (fun tmps (t, a) => tmps.setIfInBounds t a) tmps).size = sz
  | [], l', t, t', tmps, h1, h2, ht, hs, hv => by
    simp only [List.map_nil] at h1
    have : l' = [] := by cases l' with | nil => rfl | cons _ _ => simp at h1
    subst this
    cases hv
    exact ⟨ht, hs⟩
  | (p, a) :: l, l', t, t', tmps, h1, h2, ht, hs, hv => by
    cases l' with
    | nil => simp at h1
    | cons q l' =>
      obtain ⟨p', x⟩ := q
      simp only [List.map_cons, List.cons.injEq] at h1
      simp only [List.map_cons, RL] at h2
      obtain ⟨b, bs, h3, h4, h5⟩ := h2
      simp only [List.cons.injEq] at h3
      obtain ⟨rfl, rfl⟩ := h3
      obtain ⟨rfl, h6⟩ := h1
      simp only [setParams] at hv
      split at hv
      · rename_i t1 hp
        obtain ⟨k1, k2⟩ := put_ok ht hs h4 hp
        exact setParams_ok (tmps := putC tmps (some p) x) h6 h5 k1 k2 hv
      · cases hv

theorem round_ok {l : Nat} {lo : Loc} {args : List AV} {args' : Array Value} {r : ALoop} {r' : Loop} {a : AFrame} (hl : ρ l = some lo) (ho : h.obj l = some (.loop r)) (hr : LoopR ρ r r') (ha : RL ρ args args'.toList)
    (hv : roundA h l args = some a) : args.length = r.params.size ∧ FR ρ a (Frame.round lo.b r'.fn ((r'.params.zip args').foldl (fun tmps (t, a) => tmps.setIfInBounds t a) r'.tmps) r'.assign r'.body .normal) := by
  unfold roundA at hv
  rw [ho] at hv
  simp only [] at hv
  obtain ⟨ld, q1, q2, q3, q4, q5, q6, q7, q8, q9, q10⟩ := hr
  split at hv
  · rename_i hb
    rw [Nat.beq_eq] at hb
    split at hv
    · rename_i tm hp
      cases hv
      refine ⟨hb, ?_⟩
      have hlen := RL_length ha
      have hzip : ((r'.params.zip args').toList) = r'.params.toList.zip args'.toList := by simp
      have hsp := setParams_ok (ρ := ρ) (l := r.params.toList.zip args) (l' := r'.params.toList.zip args'.toList) (sz := r.sz) (t := r.tm) (t' := tm) (tmps := r'.tmps)
        (by rw [q6, List.map_fst_zip (by simp [hb]), List.map_fst_zip (by simp at hlen ⊢; omega)])
        (by rw [List.map_snd_zip (by simp [hb]), List.map_snd_zip (by rw [q6]; simp at hlen ⊢; omega)]; exact ha) q5 q4 hp
      rw [← hzip, Array.foldl_toList] at hsp
      exact ⟨q3, hsp.1, hsp.2, fun _ => ⟨_, _, rfl, by rw [q7]; rfl, _, _, rfl, rfl, _, _, rfl, by rw [q8]; rfl, rfl⟩, rfl, rfl, rfl, ⟨lo, hl, rfl⟩⟩
    · cases hv
  · cases hv
end
end Go.Eng

/- The engine: what an operation's call does. -/
namespace Go.Eng
section
variable {P : Program} {E : Env} {ρ ρ' : Ren} {h h' : Heap} {w w' : World} {tm : Tr AV}

theorem kindDef {fr : Frame} {a : AFrame} (hf : FR ρ a fr) (hd : a.dfr = true) : fr.kind = .deferred := by rw [hf.kind, hd]; rfl
theorem kindNorm {fr : Frame} {a : AFrame} (hf : FR ρ a fr) (hd : a.dfr = false) : fr.kind = .normal := by rw [hf.kind, hd]; rfl

theorem PR'_cons_false {v : AV} {older : List (AV × Bool)} {ch : List PanicEntry} {b : Bool} (hp : PR' ρ ((v, b) :: older) ch) : ∃ x bs, ch = { v := x, recovered := b, goexit := false } :: bs ∧ R ρ v x ∧ PR' ρ older bs := hp

theorem recover_ok {a : AFrame} {as : List AFrame} {fr : Frame} {cs : List Frame} {c' : Cfg} (hf : FR ρ a fr) (hcs : FsR ρ as cs) (r : Rel E.nG ρ h w)
    (hst : fr.roundOf = none → ∀ cs0, step P (lone fr cs0 w) = .next (match tryRecover fr cs0 with
      | some (v, cs') => lone (fr.finish v) cs' w
      | none => lone (fr.finish .nilIface) cs0 w)) (hv : recoverA a as h = some c') : Nx P E ρ h w (fr :: cs) c' := by
  unfold recoverA at hv
  split at hv
  · cases hv
  · rename_i hrnd
    have hro : fr.roundOf = none := by
      have := hf.rnd
      rw [hrnd] at this
      exact this
    have hst := hst hro
    have nil : ∀ {fr' : AFrame}, finishA a (.sc .nilIface) = some fr' → (∀ cs0, tryRecover fr (cs ++ cs0) = none) → Nx P E ρ h w (fr :: cs) ⟨fr' :: as, h, none⟩ := by
      intro fr' hfin htr
      refine nx_top (finish_ok (x := .nilIface) hf (by simp [R]) hfin) hcs r (Ext.refl _ _ _) fun cs0 => .one ?_
      have := hst (cs ++ cs0)
      rw [htr cs0] at this
      exact this
    split at hv
    · cases hv
    · rename_i c as' hd
      have hk := kindDef hf hd
      obtain ⟨b, bs, rfl, h1, h2⟩ := hcs
      have hmo := h1.mode
      split at hv
      · rename_i v older hcm
        rw [hcm] at hmo
        obtain ⟨ch, hbm, hch⟩ := hmo
        obtain ⟨x, bs', rfl, g1, g2⟩ := PR'_cons_false hch
        split at hv
        · rename_i fr' hfin
          cases hv
          have hb' : FR ρ { c with mode := .pan ((v, true) :: older) } { b with mode := .panicking ({ v := x, recovered := true } :: bs') } :=
            ⟨h1.fn, h1.tm, h1.sz, (fun h => by cases h), h1.ds, ⟨_, rfl, x, bs', rfl, g1, g2⟩, h1.kind, h1.rnd⟩
          refine .inl ⟨ρ, fr.finish x :: { b with mode := .panicking ({ v := x, recovered := true } :: bs') } :: bs, w, ⟨rfl, ⟨_, _, rfl, finish_ok hf g1 hfin, _, _, rfl, hb', h2⟩, r⟩, by simp, Ext.refl _ _ _, fun cs0 => .one ?_⟩
          have := hst (b :: (bs ++ cs0))
          have htr : tryRecover fr (b :: (bs ++ cs0)) = some (x, { b with mode := .panicking ({ v := x, recovered := true } :: bs') } :: (bs ++ cs0)) := by
            unfold tryRecover
            rw [hk]
            simp only [hbm]
          rw [htr] at this
          exact this
        · cases hv
      · rename_i hno
        split at hv
        · rename_i fr' hfin
          cases hv
          refine nil hfin fun cs0 => ?_
          simp only [List.cons_append, tryRecover, hk]
          split
          · rename_i x older hbm
            exfalso
            cases hcm : c.mode with
            | run => rw [hcm] at hmo; simp only [MR] at hmo; rw [hmo] at hbm; cases hbm
            | ret => rw [hcm] at hmo; simp only [MR] at hmo; rw [hmo] at hbm; cases hbm
            | pan chain =>
              rw [hcm] at hmo
              obtain ⟨ch, h3, h4⟩ := hmo
              rw [h3] at hbm
              cases hbm
              cases chain with
              | nil => simp [PR'] at h4
              | cons q qs =>
                obtain ⟨qv, qb⟩ := q
                obtain ⟨y, bs', h5, _, _⟩ := h4
                simp only [List.cons.injEq, PanicEntry.mk.injEq] at h5
                obtain ⟨⟨_, hqb, _⟩, _⟩ := h5
                subst hqb
                exact hno _ _ hcm
          · rfl
        · cases hv
    · rename_i hd
      have hk := kindNorm hf hd
      split at hv
      · rename_i fr' hfin
        cases hv
        refine nil hfin fun cs0 => ?_
        unfold tryRecover
        rw [hk]
      · cases hv

theorem aopC_defer {c : Call} {out : Out} (hC : aopC E tm (.defer c) = some out) : ∃ d, out = .defer d := by
  rw [aopC_def] at hC
  unfold aopC0 at hC
  simp only [] at hC
  split at hC
  · split at hC
    · split at hC
      · split at hC
        · cases hC; exact ⟨_, rfl⟩
        · cases hC
      · cases hC
    · cases hC
  · cases hC

theorem callA_ok (ok : EnvOK P E) {a : AFrame} {as : List AFrame} {fr : Frame} {cs : List Frame} {c' : Cfg} {ops : Array Oper} {i : Nat} {todo : List Nat} {k' : List Item} {o : Oper} {out : Out}
    (hf : FR ρ a fr) (hcs : FsR ρ as cs) (r : Rel E.nG ρ h w) (hm : fr.mode = .run) (ht : fr.todo = .inRegion ops (i :: todo) :: k') (ho : ops[i]? = some o) (hw : Region.wanted o (yielded ops fr.tmps) = true)
    (hC : aopC E tm o.op = some out) (hout : OutR E ρ h w ((execOp fr.eval o).run P w) out) (hv : callA E a as h out = some c') : Nx P E ρ h w (fr :: cs) c' := by
  have hnd : (∀ d, out ≠ .defer d) → fr.roundOf = none ∨ ∀ c, o.op ≠ .defer c := fun hno => .inr fun c hc => by
    rw [hc] at hC
    obtain ⟨d, hd⟩ := aopC_defer hC
    exact hno d hd
  unfold callA at hv
  cases out with
  | val v => cases hv
  | enter g args =>
    simp only [] at hv
    split at hv
    · rename_i fr' hE
      cases hv
      obtain ⟨args', h1, h2⟩ := hout
      exact nx_push (enter_ok ok h2 hE).1 hf hcs r (Ext.refl _ _ _) fun cs0 => .one (step_enter hm ht ho hw (hnd (by intro d h; cases h)) h1)
    · cases hv
  | round l args =>
    simp only [] at hv
    split at hv
    · rename_i fr' hE
      cases hv
      have hE' := hE
      unfold roundA at hE'
      split at hE'
      · rename_i lr hob
        split at hE'
        · rename_i hb
          rw [Nat.beq_eq] at hb
          obtain ⟨lo, r', args', g1, g2, g3, g4, g5⟩ := hout lr hob hb
          exact nx_push (round_ok g1 hob g3 g4 hE).2 hf hcs r (Ext.refl _ _ _) fun cs0 => .one (step_round hm ht ho hw (hnd (by intro d h; cases h)) g5)
        · cases hE'
      · cases hE'
    · cases hv
  | defer d =>
    simp only [] at hv
    split at hv
    · rename_i hrnd
      have hro : fr.roundOf = none := by
        have := hf.rnd
        rw [hrnd] at this
        exact this
      split at hv
      · rename_i fr' hfin
        cases hv
        obtain ⟨d', h1, h2⟩ := hout
        have hf1 : FR ρ { a with ds := d :: a.ds } { fr with defers := d' :: fr.defers } := ⟨hf.fn, hf.tm, hf.sz, hf.todo, ⟨_, _, rfl, h2, hf.ds⟩, hf.mode, hf.kind, hf.rnd⟩
        exact nx_top (finish_ok (x := undef) hf1 (by simp [R, RL, undef]) hfin) hcs r (Ext.refl _ _ _) fun cs0 => .one (step_defer hm ht ho hw (.inl hro) h1)
      · cases hv
    · cases hv
  | recover =>
    simp only [OutR] at hout
    exact recover_ok hf hcs r (fun hro cs0 => step_recover hm ht ho hw (.inl hro) hro hout) hv
  | panic v =>
    simp only [Option.some.injEq] at hv
    subst hv
    obtain ⟨y, h1, h2⟩ := hout
    exact nx_top (raise_ok hf ⟨y, [], rfl, h2, rfl⟩) hcs r (Ext.refl _ _ _) fun cs0 => .one (step_panic hm ht ho hw (hnd (by intro d h; cases h)) h1)

theorem stepOps_ok (ok : EnvOK P E) {a : AFrame} {as : List AFrame} {fr : Frame} {cs : List Frame} {c' : Cfg} {all rest : List Oper} {k : List AItem} (hmode : a.mode = .run)
    (hf : FR ρ { a with todo := .ops all rest :: k } fr) (hcs : FsR ρ as cs) (r : Rel E.nG ρ h w) (hv : stepOps E a as h all rest k = some c') : Nx P E ρ h w (fr :: cs) c' := by
  unfold stepOps at hv
  split at hv
  · rename_i tm' h' hr
    cases hv
    obtain ⟨ρ', fr', w', g1, g2, g3, g4⟩ := runOps_ok ok (a := a) (all := all) (k := k) hmode hf r hr
    exact nx_top g1 (hcs.mono g3.le) g2 g3 fun cs0 => g4 _
  · rename_i rest' tm' h' out hr
    obtain ⟨ρ', fr', w', g1, g2, g3, g4, ops, i, todo, k', o, g5, g6, g7, g8, g9, g10, g11⟩ := runOps_ok ok (a := a) (all := all) (k := k) hmode hf r hr
    exact Nx.of_steps r g2 g3 g4 (callA_ok ok g1 (hcs.mono g3.le) g2 g5 g6 g7 g8 g9 g11 hv)
  · cases hv
end
end Go.Eng

/- The engine: one step. -/
namespace Go.Eng
section
variable {P : Program} {E : Env} {ρ ρ' : Ren} {h h' : Heap} {w w' : World} {tm : Tr AV}

/-- The loop behind a name. -/
theorem get_loop (r : Rel E.nG ρ h w) {n : Nat} {lr : ALoop} {l : Loc} (hl : ρ n = some l) (ho : h.obj n = some (.loop lr)) :
    ∃ r', w.heap[l.b]? = some (.loop r') ∧ LoopR ρ lr r' := by
  obtain ⟨l', h1, h2⟩ := r.obj _ _ ho (by intro h; cases h)
  rw [hl] at h1
  cases h1
  obtain ⟨r', ld, h3, h4⟩ := h2
  exact ⟨r', h3, ld, h4⟩

/-- A loop is turned. -/
theorem put_loop (r : Rel E.nG ρ h w) {n : Nat} {lr lr2 : ALoop} {l : Loc} {r2 : Loop} (hl : ρ n = some l) (ho : h.obj n = some (.loop lr)) (hr : LoopR ρ lr2 r2) :
    Rel E.nG ρ (h.put n (.loop lr2)) { w with heap := w.heap.setIfInBounds l.b (.loop r2) } ∧ Ext ρ h w ρ (h.put n (.loop lr2)) { w with heap := w.heap.setIfInBounds l.b (.loop r2) } := by
  refine r.put (live_iff.2 ⟨_, ho, by intro h; cases h⟩) hl ?_ (by simp) ?_
  · intro b hne
    exact Array.getElem?_setIfInBounds_ne fun h => hne h.symm
  · show OR ρ l _ ((w.heap.setIfInBounds l.b (.loop r2))[l.b]?)
    rw [Array.getElem?_setIfInBounds_self_of_lt (r.lt n l hl).2]
    obtain ⟨ld, h1⟩ := hr
    exact ⟨r2, ld, rfl, h1⟩

theorem run_endRound {l : Nat} {r' : Loop} {jump : Option Code} (hb : w.heap[l]? = some (.loop r')) :
    (Instr.endRound l jump).run P w = .ok (.bool jump.isNone) { w with heap := w.heap.setIfInBounds l (.loop { r' with state := if jump.isNone then .ready else .done, pending := jump }) } := by
  simp [Instr.endRound, Instr.getLoop, getObj, setObj, Sem.run, hb]

theorem run_endLoop {l : Nat} {r' : Loop} (hb : w.heap[l]? = some (.loop r')) (hs : r'.state ≠ .busy) :
    (Instr.endLoop l).run P w = .ok r'.pending { w with heap := w.heap.setIfInBounds l (.loop { r' with state := .exhausted }) } := by
  have : (r'.state == LoopState.busy) = false := by
    cases hst : r'.state <;> first | rfl | exact absurd hst hs
  simp [Instr.endLoop, Instr.getLoop, getObj, setObj, Sem.run, hb, hs]

theorem run_beginRound {l : Nat} {r' : Loop} (hb : w.heap[l]? = some (.loop r')) (hs : r'.state = .ready) :
    (Instr.beginRound l).run P w = .ok () { w with heap := w.heap.setIfInBounds l (.loop { r' with state := .busy }) } := by
  simp [Instr.beginRound, Instr.getLoop, getObj, setObj, Sem.run, hb, hs]

/-- How a frame's code leaves it: the frame's step, from each of the four places. -/
def Leaves (P : Program) (fr : Frame) (jump : Option Code) : Prop :=
  (∀ cs w, fr.roundOf = none → (jump = none ∨ jump = some .ret) → step P (lone fr cs w) = .next (lone { fr with mode := .returning } cs w)) ∧
  (∀ l c cs w w' v, fr.roundOf = some l → fr.kind = .normal → (Instr.endRound l jump).run P w = .ok v w' → step P (lone fr (c :: cs) w) = .next (lone (c.finish v) cs w'))

theorem leaves_end {fr : Frame} (hm : fr.mode = .run) (ht : fr.todo = []) : Leaves P fr none :=
  ⟨fun cs w hr _ => step_lone_go (by simp [stepG, hm, stepG.exec, ht, hr]),
   fun l c cs w w' v hr hk hv => step_lone_go (by simp [stepG, hm, stepG.exec, ht, hr, hv, doReturn, hk])⟩

theorem leaves_ret {fr : Frame} {k : List Item} (hm : fr.mode = .run) (ht : fr.todo = .code .ret :: k) : Leaves P fr (some .ret) :=
  ⟨fun cs w hr _ => step_lone_go (by simp [stepG, hm, stepG.exec, ht, hr]),
   fun l c cs w w' v hr hk hv => step_lone_go (by simp [stepG, hm, stepG.exec, ht, hr, hv, doReturn, hk])⟩

theorem leaves_exit {fr : Frame} {k : List Item} {id : Nat} (hm : fr.mode = .run) (ht : fr.todo = .code (.exit id) :: k) (he : exitTo id k = none) : Leaves P fr (some (.exit id)) :=
  ⟨fun cs w hr h => (by rcases h with h | h <;> cases h),
   fun l c cs w w' v hr hk hv => step_lone_go (by simp [stepG, hm, stepG.exec, ht, he, hr, hv, doReturn, hk])⟩

theorem leaves_goto {fr : Frame} {k : List Item} {id : Nat} (hm : fr.mode = .run) (ht : fr.todo = .code (.goto id) :: k) (he : gotoIn id k = none) : Leaves P fr (some (.goto id)) :=
  ⟨fun cs w hr h => (by rcases h with h | h <;> cases h),
   fun l c cs w w' v hr hk hv => step_lone_go (by simp [stepG, hm, stepG.exec, ht, he, hr, hv, doReturn, hk])⟩

theorem jumpA_ok {a : AFrame} {as : List AFrame} {fr : Frame} {cs : List Frame} {c' : Cfg} {jump : Option Code} (_hmode : a.mode = .run) (hf : FR ρ a fr) (hcs : FsR ρ as cs) (r : Rel E.nG ρ h w) (hl : Leaves P fr jump)
    (hv : jumpA a as h jump = some c') : Nx P E ρ h w (fr :: cs) c' := by
  obtain ⟨hl1, hl2⟩ := hl
  unfold jumpA at hv
  split at hv
  · rename_i hrnd
    have hro : fr.roundOf = none := by
      have := hf.rnd
      rw [hrnd] at this
      exact this
    have ret : FR ρ { a with mode := .ret } { fr with mode := .returning } := ⟨hf.fn, hf.tm, hf.sz, (fun h => by cases h), hf.ds, rfl, hf.kind, hf.rnd⟩
    split at hv
    · cases hv
      exact nx_top ret hcs r (Ext.refl _ _ _) fun cs0 => .one (hl1 _ _ hro (.inl rfl))
    · cases hv
      exact nx_top ret hcs r (Ext.refl _ _ _) fun cs0 => .one (hl1 _ _ hro (.inr rfl))
    · cases hv
  · rename_i n hrnd
    split at hv
    · rename_i lr ho
      split at hv
      · rename_i hdfr
        have hrn := hf.rnd
        rw [hrnd] at hrn
        obtain ⟨l, hln, hro⟩ := hrn
        obtain ⟨r', hb, hlr⟩ := get_loop r hln ho
        have hrun := run_endRound (P := P) (jump := jump) hb
        obtain ⟨ld, q1, q2, q3, q4, q5, q6, q7, q8, q9, q10⟩ := hlr
        obtain ⟨k1, k2⟩ := put_loop (lr2 := { lr with state := stOf jump, pending := jump }) (r2 := { r' with state := if jump.isNone then .ready else .done, pending := jump }) r hln ho
          ⟨ld, by cases jump <;> rfl, rfl, q3, q4, q5, q6, q7, q8, q9, q10⟩
        exact doRet_ok (hcs.mono (Ren.le_refl _)) (x := .bool jump.isNone) (by simp [R]) k1 k2 (fun c0 cs1 => .one (hl2 _ _ _ _ _ _ hro (kindNorm hf hdfr) hrun)) hv
      · cases hv
    · cases hv

theorem resA_ok (ok : EnvOK P E) (r : Rel E.nG ρ h w) {tmps : Array Value} (ht : TR ρ tm tmps) : ∀ {rs : List ResultVar} {vs : List AV}, resA E h tm rs = some vs →
    ∃ xs : List Value, (rs.mapM fun (x : ResultVar) => match x with
      | .tmp t => (pure (tmps.getD t undef) : Sem Value)
      | .cell a t => do loadVar t (← asAddr (tmps.getD a undef))).run P w = .ok xs w ∧ RL ρ vs xs
  | [], vs, hv => by
    simp only [resA, Option.some.injEq] at hv
    subst hv
    exact ⟨[], by simp, by simp [RL]⟩
  | x :: rs, vs, hv => by
    simp only [resA] at hv
    split at hv
    · rename_i v hx
      split at hv
      · rename_i vs' hvs
        cases hv
        obtain ⟨xs, h1, h2⟩ := resA_ok ok r ht hvs
        have hone : ∃ y, (match x with
          | .tmp t => (pure (tmps.getD t undef) : Sem Value)
          | .cell a t => do loadVar t (← asAddr (tmps.getD a undef))).run P w = .ok y w ∧ R ρ v y := by
          cases x with
          | tmp t => exact ⟨_, rfl, ht _ _ hx⟩
          | cell a t =>
            simp only [] at hx
            split at hx
            · rename_i p hp
              have hz := ht _ _ hp
              simp only []
              generalize tmps.getD a undef = z at hz ⊢
              obtain ⟨y, _, g2, g3, ⟨ad, hy⟩⟩ := run_loadT ok r.q hz hx
              subst hy
              refine ⟨y, ?_, g2⟩
              simp only [Sem.run_bind, asAddr, Sem.run_pure, Result.andThen_ok]
              exact g3
            · cases hx
        obtain ⟨y, g1, g2⟩ := hone
        refine ⟨y :: xs, ?_, by simp only [RL]; exact ⟨_, _, rfl, g2, h2⟩⟩
        rw [List.mapM_cons]
        simp only [Sem.run_bind, g1, Result.andThen_ok, h1, Sem.run_pure]
      · cases hv
    · cases hv

theorem retA_ok (ok : EnvOK P E) (r : Rel E.nG ρ h w) {a : AFrame} {fr : Frame} {v : AV} (hf : FR ρ a fr) (hv : retA E h a = some v) :
    ∃ fn x, P.funcs[fr.fn]? = some fn ∧ (results fn fr.tmps).run P w = .ok x w ∧ R ρ v x := by
  unfold retA at hv
  split at hv
  · rename_i fn hfn
    have hP := ok.F _ _ hfn
    rw [← hf.fn] at hP
    have main : ∀ {vs : List AV}, resA E h a.tm fn.results.toList = some vs → ∃ xs : List Value, (results fn fr.tmps).run P w = .ok (if h : xs.toArray.size = 1 then xs.toArray[0] else .tuple xs.toArray) w ∧ RL ρ vs xs := by
      intro vs hvs
      obtain ⟨xs, h1, h2⟩ := resA_ok ok r hf.tm hvs
      refine ⟨xs, ?_, h2⟩
      unfold results
      rw [Array.mapM_eq_mapM_toList]
      simp only [Sem.run_bind, Sem.run_map, Sem.run_pure]
      have key : ∀ z : Result (List Value), z = Result.ok xs w → ((z.andThen fun a w' => Result.ok a.toArray w').andThen fun a w' => Result.ok (if h : a.size = 1 then a[0] else Value.tuple a) w') =
          Result.ok (if h : xs.toArray.size = 1 then xs.toArray[0] else Value.tuple xs.toArray) w := by
        intro z hz
        subst hz
        rfl
      exact key _ h1
    split at hv
    · rename_i v' hvs
      cases hv
      obtain ⟨xs, h1, h2⟩ := main hvs
      simp only [RL] at h2
      obtain ⟨b, bs, rfl, h3, rfl⟩ := h2
      exact ⟨fn, b, hP, by simpa using h1, h3⟩
    · rename_i vs hno hvs
      cases hv
      obtain ⟨xs, h1, h2⟩ := main hvs
      have hne : ¬ xs.length = 1 := by
        intro hl
        have := RL_length h2
        rw [hl] at this
        cases vs with
        | nil => simp at this
        | cons q qs =>
          cases qs with
          | nil => exact hno q rfl
          | cons _ _ => simp at this
      refine ⟨fn, .tuple xs.toArray, hP, ?_, by simp only [R]; exact ⟨_, rfl, by simpa using h2⟩⟩
      rw [h1]
      rw [dif_neg (by simpa using hne)]
    · cases hv
  · cases hv
end
end Go.Eng

/- The engine: one step (ends of frames, deferred calls, ranges over functions). -/
namespace Go.Eng
section
variable {P : Program} {E : Env} {ρ ρ' : Ren} {h h' : Heap} {w w' : World} {tm : Tr AV}

theorem step_mark {fr : Frame} {cs : List Frame} {l : Nat} {as : Array Value} {ds calls : List Deferred} (hm : fr.mode ≠ .run) (hd : fr.defers = { target := .collected l, args := as } :: ds)
    (hr : (Instr.takeDeferred l).run P w = .ok calls w') : step P (lone fr cs w) = .next (lone { fr with defers := calls ++ ds } cs w') := by
  cases hfm : fr.mode with
  | run => exact absurd hfm hm
  | returning => exact step_lone_go (by simp [stepG, unwind, hfm, hd, hr])
  | panicking ch => exact step_lone_go (by simp [stepG, unwind, hfm, hd, hr])

theorem step_dcall {fr : Frame} {cs : List Frame} {g : FuncId} {as c args : Array Value} {ds : List Deferred} (hm : fr.mode ≠ .run) (hd : fr.defers = { target := .fn (.func g) c, args := as } :: ds)
    (hr : (callFunc g (as ++ c)).run P w = .ok (.enter g args) w) : step P (lone fr cs w) = .next (lone (Frame.enter P g args .deferred) ({ fr with defers := ds } :: cs) w) := by
  cases hfm : fr.mode with
  | run => exact absurd hfm hm
  | returning => exact step_lone_go (by simp [stepG, unwind, callDeferred, invoke, hfm, hd, hr])
  | panicking ch => exact step_lone_go (by simp [stepG, unwind, callDeferred, invoke, hfm, hd, hr])

theorem notRun {a : AFrame} {fr : Frame} (hf : FR ρ a fr) (hm : a.mode ≠ .run) : fr.mode ≠ .run := by
  have := hf.mode
  cases hmo : a.mode with
  | run => exact absurd hmo hm
  | ret => rw [hmo] at this; simp only [MR] at this; rw [this]; intro h; cases h
  | pan ch => rw [hmo] at this; obtain ⟨c, h1, _⟩ := this; rw [h1]; intro h; cases h

theorem unwindA_ok (ok : EnvOK P E) {a : AFrame} {as : List AFrame} {fr : Frame} {cs : List Frame} {c' : Cfg} {d : ADef} {ds : List ADef} (hm : a.mode ≠ .run) (hds : a.ds = d :: ds) (hf : FR ρ a fr) (hcs : FsR ρ as cs) (r : Rel E.nG ρ h w)
    (hv : unwindA E a as h d ds = some c') : Nx P E ρ h w (fr :: cs) c' := by
  have hmr := notRun hf hm
  have hdr := hf.ds
  rw [hds] at hdr
  obtain ⟨b, bs, h1, h2, h3⟩ := hdr
  unfold unwindA at hv
  cases d with
  | mark n =>
    simp only [] at hv
    obtain ⟨l, hl, rfl⟩ := h2
    split at hv
    · rename_i ho
      cases hv
      obtain ⟨l', g1, g2⟩ := r.obj _ _ ho (by intro h; cases h)
      rw [hl] at g1
      cases g1
      obtain ⟨ds', g3, g4⟩ := g2
      simp only [DRL] at g4
      subst g4
      have hrun : (Instr.takeDeferred l.b).run P w = .ok [] { w with heap := w.heap.setIfInBounds l.b (.deferred none) } := by
        simp [Instr.takeDeferred, getObj, setObj, Sem.run, g3]
      obtain ⟨k1, k2⟩ := r.put (w' := { w with heap := w.heap.setIfInBounds l.b (.deferred none) }) (o := .dead) (live_iff.2 ⟨_, ho, by intro h; cases h⟩) hl
        (fun b hne => Array.getElem?_setIfInBounds_ne fun h => hne h.symm) (by simp) trivial
      refine nx_top (a' := { a with ds := ds }) (fr' := { fr with defers := [] ++ bs }) ⟨hf.fn, hf.tm, hf.sz, hf.todo, h3, hf.mode, hf.kind, hf.rnd⟩ hcs k1 k2 fun cs0 => .one (step_mark hmr h1 hrun)
    · cases hv
  | call g args =>
    simp only [] at hv
    obtain ⟨as', c, rfl, g1⟩ := h2
    split at hv
    · rename_i fr' hE
      cases hv
      have hE' := hE
      unfold enterA at hE'
      split at hE'
      · rename_i fn hfn
        split at hE'
        · rename_i cd hb
          exact nx_push (enter_ok ok g1 hE).2 (a' := { a with ds := ds }) (fr' := { fr with defers := bs }) ⟨hf.fn, hf.tm, hf.sz, hf.todo, h3, hf.mode, hf.kind, hf.rnd⟩ hcs r (Ext.refl _ _ _)
            fun cs0 => .one (step_dcall hmr h1 (callFunc_body ok hfn hb _))
        · cases hE'
      · cases hE'
    · cases hv

theorem step_ret_normal {fr c : Frame} {cs : List Frame} {fn : Func} {x : Value} (hm : fr.mode = .returning) (hd : fr.defers = []) (hk : fr.kind = .normal) (hf : P.funcs[fr.fn]? = some fn)
    (hr : (results fn fr.tmps).run P w = .ok x w) : step P (lone fr (c :: cs) w) = .next (lone (c.finish x) cs w) :=
  step_lone_go (by simp [stepG, unwind, doReturn, hm, hd, hk, hf, hr])

theorem step_ret_rec {fr c : Frame} {cs : List Frame} {fn : Func} {x v : Value} {gx : Bool} {older : List PanicEntry} (hm : fr.mode = .returning) (hd : fr.defers = []) (hk : fr.kind = .deferred) (hf : P.funcs[fr.fn]? = some fn)
    (hr : (results fn fr.tmps).run P w = .ok x w) (hc : c.mode = .panicking ({ v, recovered := true, goexit := gx } :: older)) (ho : older.dropWhile (!·.goexit) = []) :
    step P (lone fr (c :: cs) w) = .next (lone { c with mode := .returning } cs w) :=
  step_lone_go (by simp [stepG, unwind, doReturn, hm, hd, hk, hf, hr, hc, ho])

theorem step_ret_same {fr c : Frame} {cs : List Frame} {fn : Func} {x : Value} (hm : fr.mode = .returning) (hd : fr.defers = []) (hk : fr.kind = .deferred) (hf : P.funcs[fr.fn]? = some fn)
    (hr : (results fn fr.tmps).run P w = .ok x w) (hc : ∀ v gx older, c.mode ≠ .panicking ({ v, recovered := true, goexit := gx } :: older)) :
    step P (lone fr (c :: cs) w) = .next (lone c cs w) := by
  cases hcm : c.mode with
  | run => exact step_lone_go (by simp [stepG, unwind, doReturn, hm, hd, hk, hf, hr, hcm])
  | returning => exact step_lone_go (by simp [stepG, unwind, doReturn, hm, hd, hk, hf, hr, hcm])
  | panicking ch =>
    cases ch with
    | nil => exact step_lone_go (by simp [stepG, unwind, doReturn, hm, hd, hk, hf, hr, hcm])
    | cons q qs =>
      obtain ⟨v, rc, gx⟩ := q
      cases rc with
      | true => exact absurd hcm (hc _ _ _)
      | false => exact step_lone_go (by simp [stepG, unwind, doReturn, hm, hd, hk, hf, hr, hcm])

theorem PR'_dropWhile : ∀ {a : List (AV × Bool)} {x : List PanicEntry}, PR' ρ a x → x.dropWhile (!·.goexit) = []
  | [], x, h => by simp only [PR'] at h; subst h; rfl
  | a :: as, x, ⟨y, bs, h1, h2, h3⟩ => by subst h1; simp [PR'_dropWhile h3]

theorem leaveA_ok (ok : EnvOK P E) {a : AFrame} {as : List AFrame} {fr : Frame} {cs : List Frame} {c' : Cfg} {v : AV} (hm : a.mode = .ret) (hds : a.ds = []) (hf : FR ρ a fr) (hcs : FsR ρ as cs) (r : Rel E.nG ρ h w)
    (hret : retA E h a = some v) (hv : leaveA a as h v = some c') : Nx P E ρ h w (fr :: cs) c' := by
  obtain ⟨fn, x, g1, g2, g3⟩ := retA_ok ok r hf hret
  have hfm : fr.mode = .returning := by have := hf.mode; rw [hm] at this; exact this
  have hfd : fr.defers = [] := by have := hf.ds; rw [hds] at this; exact this
  unfold leaveA at hv
  split at hv
  · cases hv
  · rename_i c as'
    split at hv
    · rename_i hdfr
      exact doRet_ok hcs g3 r (Ext.refl _ _ _) (fun c0 cs1 => .one (step_ret_normal hfm hfd (kindNorm hf hdfr) g1 g2)) hv
    · rename_i hdfr
      obtain ⟨b, bs, rfl, h1, h2⟩ := hcs
      have hmo := h1.mode
      split at hv
      · rename_i q older hcm
        cases hv
        rw [hcm] at hmo
        obtain ⟨ch, hbm, hch⟩ := hmo
        obtain ⟨y, bs', rfl, k1, k2⟩ := PR'_cons_false hch
        refine .inl ⟨ρ, { b with mode := .returning } :: bs, w, ⟨rfl, ⟨_, _, rfl, ⟨h1.fn, h1.tm, h1.sz, (fun h => by cases h), h1.ds, rfl, h1.kind, h1.rnd⟩, h2⟩, r⟩, by simp, Ext.refl _ _ _, fun cs0 => .one ?_⟩
        exact step_ret_rec hfm hfd (kindDef hf hdfr) g1 g2 hbm (PR'_dropWhile k2)
      · rename_i hno
        cases hv
        refine .inl ⟨ρ, b :: bs, w, ⟨rfl, ⟨_, _, rfl, h1, h2⟩, r⟩, by simp, Ext.refl _ _ _, fun cs0 => .one ?_⟩
        refine step_ret_same hfm hfd (kindDef hf hdfr) g1 g2 fun y0 gx older hbm => ?_
        cases hcm : c.mode with
        | run => rw [hcm] at hmo; simp only [MR] at hmo; rw [hmo] at hbm; cases hbm
        | ret => rw [hcm] at hmo; simp only [MR] at hmo; rw [hmo] at hbm; cases hbm
        | pan chain =>
          rw [hcm] at hmo
          obtain ⟨ch, h3, h4⟩ := hmo
          rw [h3] at hbm
          cases hbm
          cases chain with
          | nil => simp [PR'] at h4
          | cons q qs =>
            obtain ⟨qv, qb⟩ := q
            obtain ⟨y, bs', h5, _, _⟩ := h4
            simp only [List.cons.injEq, PanicEntry.mk.injEq] at h5
            obtain ⟨⟨_, hqb, _⟩, _⟩ := h5
            subst hqb
            exact hno _ _ hcm

/-- A frame that ends with a panic. -/
theorem step_pan {fr c : Frame} {cs : List Frame} {ch : List PanicEntry} {fn : Func} (hm : fr.mode = .panicking ch) (hd : fr.defers = []) (hf : P.funcs[fr.fn]? = some fn) :
    step P (lone fr (c :: cs) w) = .next (lone (c.raise ch) cs w) :=
  step_lone_go (by simp [stepG, unwind, Frame.catches, hm, hd, hf])
end
end Go.Eng

/- The engine: one step, whole. -/
namespace Go.Eng
section
variable {P : Program} {E : Env} {ρ ρ' : Ren} {h h' : Heap} {w w' : World} {tm : Tr AV}

/-- What a call comes to, for the frame that called. -/
def CallR (P : Program) (E : Env) (ρ : Ren) (h : Heap) (w : World) (fr : Frame) : AEnd → Prop
  | .ret v h' => ∃ ρ' y w', R ρ' v y ∧ Rel E.nG ρ' h' w' ∧ Ext ρ h w ρ' h' w' ∧ ∀ cs, Steps P (lone fr cs w) (lone (fr.finish y) cs w')
  | .pan c h' => ∃ ρ' ch w', PR' ρ' c ch ∧ Rel E.nG ρ' h' w' ∧ Ext ρ h w ρ' h' w' ∧ ∀ cs, Steps P (lone fr cs w) (lone (fr.raise ch) cs w')

/-- What is asked of the calls out of drawn regions. -/
def CallOK (P : Program) (E : Env) (cd : Out → Heap → Option AEnd) : Prop :=
  ∀ (ρ : Ren) (h : Heap) (w : World) (fr : Frame) (ops : Array Oper) (i : Nat) (rest : List Nat) (k : List Item) (o : Oper) (tm : Tr AV) (out : Out) (e : AEnd), Rel E.nG ρ h w → fr.mode = .run → fr.todo = .inRegion ops (i :: rest) :: k → ops[i]? = some o →
    Region.wanted o (yielded ops fr.tmps) = true → aopC E tm o.op = some out → OutR E ρ h w ((execOp fr.eval o).run P w) out → cd out h = some e → CallR P E ρ h w fr e

/-- What is asked of drawn regions. -/
def DrawnHyp (P : Program) (E : Env) (self : Out → Heap → Option AEnd) : Prop :=
  ∀ (a : AFrame) (fr : Frame) (ρ : Ren) (h : Heap) (w : World) (id : Nat) (ops : Array Oper) (k : List AItem) (tm' : Tr AV) (h' : Heap) (oc : Option (List (AV × Bool))),
    a.mode = .run → a.todo = .code (.region id ops true) :: k → FR ρ a fr → Rel E.nG ρ h w → drawn E self a.sz ops.toList a.tm h = some (tm', h', oc) →
    ∃ ρ' fr' w', FR ρ' (match oc with | none => { a with tm := tm', todo := k } | some c => raiseA { a with tm := tm' } c) fr' ∧ Rel E.nG ρ' h' w' ∧ Ext ρ h w ρ' h' w' ∧ ∀ cs, Steps P (lone fr cs w) (lone fr' cs w')

/-- What is asked of the regions by which a mode is drawn. -/
def ModeHyp (P : Program) (E : Env) : Prop :=
  ∀ (a : AFrame) (as : List AFrame) (fr : Frame) (cs : List Frame) (ρ : Ren) (h : Heap) (w : World) (id : Nat) (ops : Array Oper) (k : List AItem) (p q : Tmp) (c' : Cfg),
    a.mode = .run → a.todo = .code (.region id ops true) :: k → FR ρ a fr → FsR ρ as cs → Rel E.nG ρ h w → isMode ops.toList = some (p, q) → stepMode E a as h ops.toList q k = some c' → Nx P E ρ h w (fr :: cs) c'

theorem run_enterNone {fn : FuncId} {tmps : Array Value} {params : Array Tmp} {assign body : Code} :
    (Instr.enterLoop fn tmps params assign body none).run P w = .ok (w.heap.size + 1, [{ target := .collected w.heap.size, args := #[] }])
      ((w.alloc (.deferred (some []))).alloc (.loop { state := .ready, pending := none, fn, tmps, params, assign, body, defers := w.heap.size })) := by
  have : (w.alloc (.deferred (some []))).heap.size = w.heap.size + 1 := by show (w.heap.push _).size = _; simp
  simp [Instr.enterLoop, this]

theorem run_enterSome {fn : FuncId} {tmps : Array Value} {params : Array Tmp} {assign body : Code} {l : Nat} {r' : Loop} (hb : w.heap[l]? = some (.loop r')) :
    (Instr.enterLoop fn tmps params assign body (some l)).run P w = .ok (w.heap.size, []) (w.alloc (.loop { state := .ready, pending := none, fn, tmps, params, assign, body, defers := r'.defers })) := by
  simp [Instr.enterLoop, Instr.getLoop, getObj, Sem.run, hb]

theorem new_alloc (r : Rel E.nG ρ h w) {o : AObj} {ob : Obj} (c s : Nat) (ho : ∀ ρ', ρ.le ρ' → ρ' h.next = some ⟨w.heap.size, 0, c, s⟩ → OR ρ' ⟨w.heap.size, 0, c, s⟩ o (some ob)) :
    Rel E.nG (ρ.put h.next ⟨w.heap.size, 0, c, s⟩) (h.new o) (w.alloc ob) ∧ Ext ρ h w (ρ.put h.next ⟨w.heap.size, 0, c, s⟩) (h.new o) (w.alloc ob) :=
  new_any (w' := w.alloc ob) (o := o) (ob := ob) (c := c) (s := s) r (by show (w.heap.push _).size = _; simp) (fun b hb => by
    show (w.heap.push _)[b]? = _
    rw [Array.getElem?_push, if_neg (by omega)]) (by show (w.heap.push _)[w.heap.size]? = _; simp) ho

theorem loopA_ok {a : AFrame} {fr : Frame} {h1 : Heap} {d : Nat} {ds : List ADef} {params : Array Tmp} {assign body : Code} (hf : FR ρ a fr) (r : Rel E.nG ρ h w) (hv : loopA a h = some (h1, d, ds)) :
    ∃ ρ' l mark w', (Instr.enterLoop fr.fn fr.tmps params assign body fr.roundOf).run P w = .ok (l, mark) w' ∧ Rel E.nG ρ' (h1.new (.loop ⟨.ready, none, a.fn, a.tm, a.sz, params, assign, body, d⟩)) w' ∧
      Ext ρ h w ρ' (h1.new (.loop ⟨.ready, none, a.fn, a.tm, a.sz, params, assign, body, d⟩)) w' ∧ (∃ lo, ρ' h1.next = some lo ∧ lo.b = l) ∧ DRL ρ' ds (mark ++ fr.defers) := by
  unfold loopA at hv
  split at hv
  · rename_i n hrnd
    split at hv
    · rename_i lr ho
      cases hv
      have hrn := hf.rnd
      rw [hrnd] at hrn
      obtain ⟨l, hln, hro⟩ := hrn
      obtain ⟨r', hb, ld, q1, q2, q3, q4, q5, q6, q7, q8, q9, q10⟩ := get_loop r hln ho
      obtain ⟨k1, k2⟩ := new_alloc (o := .loop ⟨.ready, none, a.fn, a.tm, a.sz, params, assign, body, lr.defers⟩) (ob := .loop { state := .ready, pending := none, fn := fr.fn, tmps := fr.tmps, params, assign, body, defers := r'.defers }) r 0 0
        (fun ρ' hle _ => ⟨_, ld, rfl, rfl, rfl, hf.fn, hf.sz, hf.tm.mono hle, rfl, rfl, rfl, hle _ _ q9, q10⟩)
      refine ⟨_, w.heap.size, [], _, ?_, k1, k2, ⟨_, Ren.put_same _ _ _, rfl⟩, hf.ds.mono k2.le⟩
      rw [hro]
      exact run_enterSome hb
    · cases hv
  · rename_i hrnd
    cases hv
    have hro : fr.roundOf = none := by
      have := hf.rnd
      rw [hrnd] at this
      exact this
    obtain ⟨k1, k2⟩ := new_alloc (o := .deferred []) (ob := .deferred (some [])) r 0 0 (fun ρ' hle _ => ⟨[], rfl, rfl⟩)
    have hn1 : (ρ.put h.next ⟨w.heap.size, 0, 0, 0⟩) h.next = some ⟨w.heap.size, 0, 0, 0⟩ := Ren.put_same _ _ _
    obtain ⟨k3, k4⟩ := new_alloc (o := .loop ⟨.ready, none, a.fn, a.tm, a.sz, params, assign, body, h.next⟩) (ob := .loop { state := .ready, pending := none, fn := fr.fn, tmps := fr.tmps, params, assign, body, defers := w.heap.size }) k1 0 0
      (fun ρ' hle _ => ⟨_, ⟨w.heap.size, 0, 0, 0⟩, rfl, rfl, rfl, hf.fn, hf.sz, (hf.tm.mono k2.le).mono hle, rfl, rfl, rfl, hle _ _ hn1, rfl⟩)
    have hsz : (w.alloc (.deferred (some []))).heap.size = w.heap.size + 1 := by show (w.heap.push _).size = _; simp
    refine ⟨_, w.heap.size + 1, [{ target := .collected w.heap.size, args := #[] }], _, by rw [hro]; exact run_enterNone, k3, Ext.trans r k1 k2 k4, ⟨_, Ren.put_same _ _ _, hsz⟩, ?_⟩
    exact ⟨_, _, rfl, ⟨_, k4.le _ _ hn1, rfl⟩, (hf.ds.mono k2.le).mono k4.le⟩

section
variable {fr : Frame} {cs : List Frame} {k : List Item} {f : Operand} {params : Array Tmp} {assign body : Code} {l : Nat} {mark : List Deferred}

theorem step_range_enter {g : FuncId} {first captured : Array Value} {args : Array Value} (hm : fr.mode = .run) (ht : fr.todo = .code (.rangeFunc f params assign body) :: k)
    (hr : (Instr.enterLoop fr.fn fr.tmps params assign body fr.roundOf).run P w = .ok (l, mark) w') (hfv : fr.eval f = .func (.func g) first captured)
    (hc : (callFunc g (first ++ #[.func (.yield l) #[] #[]] ++ captured)).run P w' = .ok (.enter g args) w') :
    step P (lone fr cs w) = .next (lone (Frame.enter P g args .normal) ({ fr with todo := .inRangeFunc l :: k, defers := mark ++ fr.defers } :: cs) w') := by
  refine step_lone_go ?_
  obtain ⟨fn, tmps, todo, defers, mode, kind, roundOf⟩ := fr
  simp only [] at hm ht hr hfv
  subst hm
  subst ht
  have hev : (⟨fn, tmps, .inRangeFunc l :: k, mark ++ defers, .run, kind, roundOf⟩ : Frame).eval f = .func (.func g) first captured := by
    rw [← hfv]
    cases f <;> rfl
  have hrun : (do let d ← resolve (⟨fn, tmps, .inRangeFunc l :: k, mark ++ defers, .run, kind, roundOf⟩ : Frame).eval { callee := .value f, args := #[.const (.func (.yield l) #[] #[])], argTypes := #[] } 0; invoke d.target d.args : Sem Next).run P w' = .ok (.enter g args) w' := by
    have hmap : #[Operand.const (.func (.yield l) #[] #[])].map (⟨fn, tmps, .inRangeFunc l :: k, mark ++ defers, .run, kind, roundOf⟩ : Frame).eval = #[Value.func (.yield l) #[] #[]] := by simp [Frame.eval]
    simp only [resolve, hev, hmap, Deferred.ofValue, Sem.run_bind, Sem.run_pure, Result.andThen_ok, invoke]
    exact hc
  simp only [stepG, stepG.exec, Sem.runT_eq, hr, GStep.bare_after]
  simp [stepG.apply, Sem.runT_eq, hrun]

theorem step_range_round {n : Nat} {first captured : Array Value} {l2 : Nat} {f2 : FuncId} {tmps2 : Array Value} {a2 b2 : Code} (hm : fr.mode = .run) (ht : fr.todo = .code (.rangeFunc f params assign body) :: k)
    (hr : (Instr.enterLoop fr.fn fr.tmps params assign body fr.roundOf).run P w = .ok (l, mark) w') (hfv : fr.eval f = .func (.yield n) first captured)
    (hc : (Instr.yield n (first ++ #[.func (.yield l) #[] #[]])).run P w' = .ok (.round l2 f2 tmps2 a2 b2) w') :
    step P (lone fr cs w) = .next (lone (Frame.round l2 f2 tmps2 a2 b2 .normal) ({ fr with todo := .inRangeFunc l :: k, defers := mark ++ fr.defers } :: cs) w') := by
  refine step_lone_go ?_
  obtain ⟨fn, tmps, todo, defers, mode, kind, roundOf⟩ := fr
  simp only [] at hm ht hr hfv
  subst hm
  subst ht
  have hev : (⟨fn, tmps, .inRangeFunc l :: k, mark ++ defers, .run, kind, roundOf⟩ : Frame).eval f = .func (.yield n) first captured := by
    rw [← hfv]
    cases f <;> rfl
  have hrun : (do let d ← resolve (⟨fn, tmps, .inRangeFunc l :: k, mark ++ defers, .run, kind, roundOf⟩ : Frame).eval { callee := .value f, args := #[.const (.func (.yield l) #[] #[])], argTypes := #[] } 0; invoke d.target d.args : Sem Next).run P w' = .ok (.round l2 f2 tmps2 a2 b2) w' := by
    have hmap : #[Operand.const (.func (.yield l) #[] #[])].map (⟨fn, tmps, .inRangeFunc l :: k, mark ++ defers, .run, kind, roundOf⟩ : Frame).eval = #[Value.func (.yield l) #[] #[]] := by simp [Frame.eval]
    simp only [resolve, hev, hmap, Deferred.ofValue, Sem.run_bind, Sem.run_pure, Result.andThen_ok, invoke]
    exact hc
  simp only [stepG, stepG.exec, Sem.runT_eq, hr, GStep.bare_after]
  simp [stepG.apply, Sem.runT_eq, hrun]
end

theorem stepRange_ok (ok : EnvOK P E) {a : AFrame} {as : List AFrame} {fr : Frame} {cs : List Frame} {c' : Cfg} {f : Operand} {params : Array Tmp} {assign body : Code} {k : List AItem}
    (hmode : a.mode = .run) (htd : a.todo = .code (.rangeFunc f params assign body) :: k) (hf : FR ρ a fr) (hcs : FsR ρ as cs) (r : Rel E.nG ρ h w) (hv : stepRange E a as h f params assign body k = some c') : Nx P E ρ h w (fr :: cs) c' := by
  have hm : fr.mode = .run := by have := hf.mode; rw [hmode] at this; exact this
  have htodo := hf.todo hmode
  rw [htd] at htodo
  obtain ⟨b, bs, h1, rfl, h3⟩ := htodo
  unfold stepRange at hv
  split at hv
  · cases hv
  · rename_i h1' d ds hl
    obtain ⟨ρ1, l, mark, w1, g1, g2, g3, ⟨lo, g4, g5⟩, g6⟩ := loopA_ok (P := P) (params := params) (assign := assign) (body := body) hf r hl
    have hf1 : FR ρ1 { a with todo := .inRange h1'.next :: k, ds := ds } { fr with todo := .inRangeFunc l :: bs, defers := mark ++ fr.defers } :=
      ⟨hf.fn, hf.tm.mono g3.le, hf.sz, fun _ => ⟨_, _, rfl, ⟨lo, g4, by rw [g5]⟩, h3.mono g3.le⟩, g6, hf.mode.mono g3.le, hf.kind, hf.rnd.mono g3.le⟩
    have hyl : RL ρ1 [.yld h1'.next] [.func (.yield l) #[] #[]] := by
      simp only [RL, R]
      exact ⟨_, _, rfl, ⟨lo, g4, by rw [g5]⟩, rfl⟩
    split at hv
    · rename_i g first captured hfv
      have hfr := ev_ok (E := E) (h := h) (w := w) r.q (f := fr) hf.tm _ _ hfv
      simp only [R] at hfr
      obtain ⟨a', b', hfe, q1, q2⟩ := hfr
      simp only [callA] at hv
      split at hv
      · rename_i fr' hE
        cases hv
        have hE' := hE
        unfold enterA at hE'
        split at hE'
        · rename_i fn hfn
          split at hE'
          · rename_i cd hb
            have hall : RL ρ1 (first ++ [.yld h1'.next] ++ captured) (a' ++ #[Value.func (.yield l) #[] #[]] ++ b').toList := by
              simp only [Array.toList_append]
              exact RL_append (RL_append (RL_mono g3.le _ _ q1) hyl) (RL_mono g3.le _ _ q2)
            exact nx_push (enter_ok ok hall hE).1 hf1 (hcs.mono g3.le) g2 g3 fun cs0 => .one (step_range_enter hm h1 g1 hfe (callFunc_body ok hfn hb _))
          · cases hE'
        · cases hE'
      · cases hv
    · rename_i n hfv
      have hfr := ev_ok (E := E) (h := h) (w := w) r.q (f := fr) hf.tm _ _ hfv
      simp only [R] at hfr
      obtain ⟨ln, hln, hfe⟩ := hfr
      simp only [callA] at hv
      split at hv
      · rename_i fr' hE
        cases hv
        have hE' := hE
        unfold roundA at hE'
        split at hE'
        · rename_i lr hob
          split at hE'
          · rename_i hbq
            rw [Nat.beq_eq] at hbq
            obtain ⟨r', hb, hlr⟩ := get_loop g2 (g3.le _ _ hln) hob
            have hro := (round_ok (args' := #[Value.func (.yield l) #[] #[]]) (g3.le _ _ hln) hob hlr hyl hE)
            have hrun : (Instr.yield ln.b (#[] ++ #[Value.func (.yield l) #[] #[]])).run P w1 = .ok (.round ln.b r'.fn ((r'.params.zip (#[Value.func (.yield l) #[] #[]] : Array Value)).foldl (fun tmps (t, a) => tmps.setIfInBounds t a) r'.tmps) r'.assign r'.body) w1 := by
              obtain ⟨ld, z1, z2, z3, z4, z5, z6, _⟩ := hlr
              have hlen : ¬ ((#[Value.func (.yield l) #[] #[]] : Array Value).size ≠ r'.params.size) := by
                rw [z6, ← hbq]
                simp
              simp only [Array.empty_append, Instr.yield, Instr.getLoop, getObj, Sem.run_bind, Sem.run, hb]
              simp only [Result.andThen_ok, Sem.run_pure, hlen, if_false]
            exact nx_push hro.2 hf1 (hcs.mono g3.le) g2 g3 fun cs0 => .one (step_range_round hm h1 g1 hfe hrun)
          · cases hE'
        · cases hE'
      · cases hv
    · cases hv
end
end Go.Eng

/- The engine: one step and many. -/
namespace Go.Eng
section
variable {P : Program} {E : Env} {ρ ρ' : Ren} {h h' : Heap} {w w' : World} {tm : Tr AV}

theorem range_some (ops : Array Oper) : ops.toList.map some = (List.range ops.size).map fun i => ops[i]? := by
  apply List.ext_getElem?
  intro i
  simp only [List.getElem?_map, Array.getElem?_toList]
  rcases Nat.lt_or_ge i ops.size with hi | hi
  · rw [List.getElem?_range hi]
    simp [hi]
  · rw [List.getElem?_eq_none (by simpa using hi), Array.getElem?_eq_none hi]
    rfl

/-- A step that turns what is to be done, and nothing else. -/
theorem nx_todo {a : AFrame} {as : List AFrame} {fr : Frame} {cs : List Frame} {td : List AItem} {td' : List Item} (_hmode : a.mode = .run) (hf : FR ρ a fr) (hcs : FsR ρ as cs) (r : Rel E.nG ρ h w) (htd : IRL ρ td td')
    (hs : ∀ cs0, step P (lone fr cs0 w) = .next (lone { fr with todo := td' } cs0 w)) : Nx P E ρ h w (fr :: cs) ⟨{ a with todo := td } :: as, h, none⟩ :=
  nx_top (a' := { a with todo := td }) (fr' := { fr with todo := td' }) ⟨hf.fn, hf.tm, hf.sz, fun _ => htd, hf.ds, hf.mode, hf.kind, hf.rnd⟩ hcs r (Ext.refl _ _ _) fun _ => .one (hs _)

theorem IRL_cons {a : AItem} {as : List AItem} {x : Item} {xs : List Item} (h1 : IR ρ a x) (h2 : IRL ρ as xs) : IRL ρ (a :: as) (x :: xs) := ⟨_, _, rfl, h1, h2⟩

theorem stepCode_ok (ok : EnvOK P E) {self : Out → Heap → Option AEnd} (hD : DrawnHyp P E self) (hM : ModeHyp P E) {a : AFrame} {as : List AFrame} {fr : Frame} {cs : List Frame} {c' : Cfg} {c : Code} {k : List AItem}
    (hmode : a.mode = .run) (htd : a.todo = .code c :: k) (hf : FR ρ a fr) (hcs : FsR ρ as cs) (r : Rel E.nG ρ h w) (hv : stepCode E self a as h c k = some c') : Nx P E ρ h w (fr :: cs) c' := by
  have hm : fr.mode = .run := by have := hf.mode; rw [hmode] at this; exact this
  have htodo := hf.todo hmode
  rw [htd] at htodo
  obtain ⟨b, bs, h1, rfl, h3⟩ := htodo
  unfold stepCode at hv
  cases c with
  | skip => cases hv; exact nx_todo hmode hf hcs r h3 fun cs0 => step_lone_go (by simp [stepG, hm, stepG.exec, h1])
  | label l => cases hv; exact nx_todo hmode hf hcs r h3 fun cs0 => step_lone_go (by simp [stepG, hm, stepG.exec, h1])
  | seq x y => cases hv; exact nx_todo hmode hf hcs r (IRL_cons rfl (IRL_cons rfl h3)) fun cs0 => step_lone_go (by simp [stepG, hm, stepG.exec, h1])
  | cond o x y =>
    simp only [] at hv
    split at hv
    · rename_i hev
      cases hv
      have he := ev_ok (E := E) (h := h) (w := w) r.q (f := fr) hf.tm _ _ hev
      simp only [R] at he
      exact nx_todo hmode hf hcs r (IRL_cons rfl h3) fun cs0 => step_lone_go (by simp [stepG, hm, stepG.exec, h1, he])
    · rename_i hev
      cases hv
      have he := ev_ok (E := E) (h := h) (w := w) r.q (f := fr) hf.tm _ _ hev
      simp only [R] at he
      exact nx_todo hmode hf hcs r (IRL_cons rfl h3) fun cs0 => step_lone_go (by simp [stepG, hm, stepG.exec, h1, he])
    · cases hv
  | block id x => cases hv; exact nx_todo hmode hf hcs r (IRL_cons rfl (IRL_cons rfl h3)) fun cs0 => step_lone_go (by simp [stepG, hm, stepG.exec, h1])
  | loop x => cases hv; exact nx_todo hmode hf hcs r (IRL_cons rfl (IRL_cons rfl h3)) fun cs0 => step_lone_go (by simp [stepG, hm, stepG.exec, h1])
  | scope x => cases hv; exact nx_todo hmode hf hcs r (IRL_cons rfl (IRL_cons rfl h3)) fun cs0 => step_lone_go (by simp [stepG, hm, stepG.exec, h1])
  | exit id =>
    simp only [] at hv
    have hx := exit_ok (id := id) h3
    split at hv
    · rename_i k' hk
      cases hv
      rw [hk] at hx
      obtain ⟨K', g1, g2⟩ := hx
      exact nx_todo hmode hf hcs r g2 fun cs0 => step_lone_go (by simp [stepG, hm, stepG.exec, h1, g1])
    · rename_i hk
      rw [hk] at hx
      exact jumpA_ok hmode hf hcs r (leaves_exit hm h1 hx) hv
  | goto l =>
    simp only [] at hv
    have hx := goto_ok (l := l) h3
    split at hv
    · rename_i k' hk
      cases hv
      rw [hk] at hx
      obtain ⟨K', g1, g2⟩ := hx
      exact nx_todo hmode hf hcs r g2 fun cs0 => step_lone_go (by simp [stepG, hm, stepG.exec, h1, g1])
    · rename_i hk
      rw [hk] at hx
      exact jumpA_ok hmode hf hcs r (leaves_goto hm h1 hx) hv
  | ret => exact jumpA_ok hmode hf hcs r (leaves_ret hm h1) hv
  | region id ops d =>
    cases d with
    | false =>
      simp only [] at hv
      have hf2 : FR ρ { a with todo := .ops ops.toList ops.toList :: k } { fr with todo := .inRegion ops (List.range ops.size) :: bs } :=
        ⟨hf.fn, hf.tm, hf.sz, fun _ => ⟨_, _, rfl, ⟨ops, _, rfl, rfl, range_some ops⟩, h3⟩, hf.ds, hf.mode, hf.kind, hf.rnd⟩
      refine Nx.of_steps r r (Ext.refl _ _ _) (fun cs0 => .one ?_) (stepOps_ok ok hmode hf2 hcs r hv)
      exact step_lone_go (by simp [stepG, hm, stepG.exec, h1])
    | true =>
      simp only [stepDrawn] at hv
      split at hv
      · rename_i p q hq
        exact hM a as fr cs ρ h w id ops k p q c' hmode htd hf hcs r hq hv
      · split at hv
        · rename_i tm' h' hdr
          cases hv
          obtain ⟨ρ', fr', w', g1, g2, g3, g4⟩ := hD a fr ρ h w id ops k tm' h' none hmode htd hf r hdr
          exact nx_top g1 (hcs.mono g3.le) g2 g3 fun cs0 => g4 _
        · rename_i tm' h' c hdr
          cases hv
          obtain ⟨ρ', fr', w', g1, g2, g3, g4⟩ := hD a fr ρ h w id ops k tm' h' (some c) hmode htd hf r hdr
          exact nx_top g1 (hcs.mono g3.le) g2 g3 fun cs0 => g4 _
        · cases hv
  | rangeFunc f params assign body => exact stepRange_ok ok hmode htd hf hcs r hv
  | refuse why => cases hv

theorem stepRun_ok (ok : EnvOK P E) {self : Out → Heap → Option AEnd} (hD : DrawnHyp P E self) (hM : ModeHyp P E) {a : AFrame} {as : List AFrame} {fr : Frame} {cs : List Frame} {c' : Cfg}
    (hmode : a.mode = .run) (hf : FR ρ a fr) (hcs : FsR ρ as cs) (r : Rel E.nG ρ h w) (hv : stepRun E self a as h = some c') : Nx P E ρ h w (fr :: cs) c' := by
  have hm : fr.mode = .run := by have := hf.mode; rw [hmode] at this; exact this
  have htodo := hf.todo hmode
  unfold stepRun at hv
  split at hv
  · rename_i htd
    rw [htd] at htodo
    exact jumpA_ok hmode hf hcs r (leaves_end hm htodo) hv
  · rename_i x k htd
    have htodo0 := htodo
    rw [htd] at htodo
    obtain ⟨b, bs, h1, h2, h3⟩ := htodo
    split at hv
    · simp only [IR] at h2; subst h2; cases hv
      exact nx_todo hmode hf hcs r h3 fun cs0 => step_lone_go (by simp [stepG, hm, stepG.exec, h1])
    · simp only [IR] at h2; subst h2; cases hv
      exact nx_todo hmode hf hcs r h3 fun cs0 => step_lone_go (by simp [stepG, hm, stepG.exec, h1])
    · simp only [IR] at h2; subst h2; cases hv
      exact nx_todo hmode hf hcs r (IRL_cons rfl (IRL_cons rfl h3)) fun cs0 => step_lone_go (by simp [stepG, hm, stepG.exec, h1])
    · exact stepOps_ok ok hmode ⟨hf.fn, hf.tm, hf.sz, fun _ => by rw [← htd]; exact htodo0, hf.ds, hf.mode, hf.kind, hf.rnd⟩ hcs r hv
    · cases hv
    · -- the loop is over
      rename_i n
      simp only [IR] at h2
      obtain ⟨l, hl, rfl⟩ := h2
      split at hv
      · rename_i lr ho
        obtain ⟨r', hb, ld, q1, q2, q3, q4, q5, q6, q7, q8, q9, q10⟩ := get_loop r hl ho
        split at hv
        · cases hv
        · rename_i hnb
          cases hv
          have hrun := run_endLoop (P := P) hb (by rw [q1]; exact fun h => hnb h)
          obtain ⟨k1, k2⟩ := put_loop (lr2 := { lr with state := .exhausted }) (r2 := { r' with state := .exhausted }) r hl ho ⟨ld, rfl, q2, q3, q4, q5, q6, q7, q8, q9, q10⟩
          refine nx_top (a' := { a with todo := (match lr.pending with | some j => .code j :: k | none => k) }) (fr' := { fr with todo := (r'.pending.map Item.code).toList ++ bs })
            ⟨hf.fn, hf.tm, hf.sz, fun _ => ?_, hf.ds, hf.mode, hf.kind, hf.rnd⟩ hcs k1 k2 fun cs0 => .one (step_lone_go (by simp [stepG, hm, stepG.exec, h1, hrun]))
          rw [q2]
          cases lr.pending with
          | none => exact h3
          | some j => exact ⟨_, _, rfl, rfl, h3⟩
      · cases hv
    · -- a round begins
      simp only [IR] at h2
      subst h2
      split at hv
      · rename_i n hrnd
        have hrn := hf.rnd
        rw [hrnd] at hrn
        obtain ⟨l, hl, hro⟩ := hrn
        split at hv
        · rename_i lr ho
          obtain ⟨r', hb, ld, q1, q2, q3, q4, q5, q6, q7, q8, q9, q10⟩ := get_loop r hl ho
          split at hv
          · rename_i hst
            cases hv
            have hrun := run_beginRound (P := P) hb (by rw [q1]; exact hst)
            obtain ⟨k1, k2⟩ := put_loop (lr2 := { lr with state := .busy }) (r2 := { r' with state := .busy }) r hl ho ⟨ld, rfl, q2, q3, q4, q5, q6, q7, q8, q9, q10⟩
            exact nx_top (a' := { a with todo := k }) (fr' := { fr with todo := bs }) ⟨hf.fn, hf.tm, hf.sz, fun _ => h3, hf.ds, hf.mode, hf.kind, hf.rnd⟩ hcs k1 k2
              fun cs0 => .one (step_lone_go (by simp [stepG, hm, stepG.exec, stepG.apply, h1, hro, hrun, Frame.finish]))
          · cases hv
        · cases hv
      · cases hv
    · exact stepCode_ok ok hD hM hmode htd hf hcs r hv

theorem astep_ok (ok : EnvOK P E) {self : Out → Heap → Option AEnd} (hD : DrawnHyp P E self) (hM : ModeHyp P E) {c c' : Cfg} {fs : List Frame} (s : St E ρ c fs w) (hv : astep E self c = some c') : Nx P E ρ c.h w fs c' := by
  obtain ⟨_, hfs, r⟩ := s
  unfold astep at hv
  split at hv
  · cases hv
  · rename_i a as hcf
    rw [hcf] at hfs
    obtain ⟨fr, cs, rfl, hf, hcs⟩ := hfs
    split at hv
    · rename_i hmo
      split at hv
      · rename_i d ds hds
        exact unwindA_ok ok (by rw [hmo]; intro h; cases h) hds hf hcs r hv
      · rename_i hds
        split at hv
        · rename_i v hret
          exact leaveA_ok ok hmo hds hf hcs r hret hv
        · cases hv
    · rename_i chain hmo
      split at hv
      · rename_i d ds hds
        exact unwindA_ok ok (by rw [hmo]; intro h; cases h) hds hf hcs r hv
      · rename_i hds
        split at hv
        · rename_i b as' fn hfn
          cases hv
          obtain ⟨c1, cs1, rfl, h1, h2⟩ := hcs
          have hmf := hf.mode
          rw [hmo] at hmf
          obtain ⟨ch, g1, g2⟩ := hmf
          have hfd : fr.defers = [] := by have := hf.ds; rw [hds] at this; exact this
          have hP := ok.F _ _ hfn
          rw [← hf.fn] at hP
          exact .inl ⟨ρ, c1.raise ch :: cs1, w, ⟨rfl, ⟨_, _, rfl, raise_ok h1 g2, h2⟩, r⟩, by simp, Ext.refl _ _ _, fun cs0 => .one (step_pan g1 hfd hP)⟩
        · cases hv
    · rename_i hmo
      exact stepRun_ok ok hD hM hmo hf hcs r hv
end
end Go.Eng

/- The engine: runs as far as their end. -/
namespace Go.Eng
section
variable {P : Program} {E : Env} {ρ ρ' : Ren} {h h' : Heap} {w w' : World} {tm : Tr AV}

/-- How a call ends, for who called. -/
def EndR (P : Program) (E : Env) (ρ : Ren) (h : Heap) (w : World) (fs : List Frame) : AEnd → Prop
  | .ret v h' => ∃ ρ' x w', R ρ' v x ∧ Rel E.nG ρ' h' w' ∧ Ext ρ h w ρ' h' w' ∧ ∀ c0 cs1, Steps P (mk (fs ++ c0 :: cs1) w) (mk (c0.finish x :: cs1) w')
  | .pan ch h' => ∃ ρ' ch' w', PR' ρ' ch ch' ∧ Rel E.nG ρ' h' w' ∧ Ext ρ h w ρ' h' w' ∧ ∀ c0 cs1, Steps P (mk (fs ++ c0 :: cs1) w) (mk (c0.raise ch' :: cs1) w')

theorem EndR.of_steps {fs fs' : List Frame} {e : AEnd} (r : Rel E.nG ρ h w) (r' : Rel E.nG ρ' h' w') (x : Ext ρ h w ρ' h' w') (hs : ∀ cs0, Steps P (mk (fs ++ cs0) w) (mk (fs' ++ cs0) w'))
    (hn : EndR P E ρ' h' w' fs' e) : EndR P E ρ h w fs e := by
  cases e with
  | ret v h2 =>
    obtain ⟨ρ2, y, w2, h1, h2, h3, h4⟩ := hn
    exact ⟨ρ2, y, w2, h1, h2, Ext.trans r r' x h3, fun c0 cs1 => (hs (c0 :: cs1)).trans (h4 c0 cs1)⟩
  | pan ch h2 =>
    obtain ⟨ρ2, y, w2, h1, h2, h3, h4⟩ := hn
    exact ⟨ρ2, y, w2, h1, h2, Ext.trans r r' x h3, fun c0 cs1 => (hs (c0 :: cs1)).trans (h4 c0 cs1)⟩

def SelfOK (P : Program) (E : Env) (self : Cfg → Option AEnd) : Prop :=
  ∀ (c : Cfg) (fs : List Frame) (w : World) (ρ : Ren) (e : AEnd), St E ρ c fs w → c.fs ≠ [] → self c = some e → EndR P E ρ c.h w fs e

theorem outA_ok (ok : EnvOK P E) {c : Cfg} {fs : List Frame} {e : AEnd} (s : St E ρ c fs w) (hne : c.fs ≠ []) (hv : outA E c = some e) : EndR P E ρ c.h w fs e := by
  obtain ⟨_, hfs, r⟩ := s
  unfold outA at hv
  split at hv
  · rename_i h0
    exact absurd h0 hne
  · rename_i a as hcf
    rw [hcf] at hfs
    obtain ⟨fr, cs, rfl, hf, hcs⟩ := hfs
    split at hv
    · simp only [FsR] at hcs
      subst hcs
      split at hv
      · rename_i hmo hds hrnd hdfr
        split at hv
        · rename_i v hret
          cases hv
          obtain ⟨fn, x, g1, g2, g3⟩ := retA_ok ok r hf hret
          have hfm : fr.mode = .returning := by have := hf.mode; rw [hmo] at this; exact this
          have hfd : fr.defers = [] := by have := hf.ds; rw [hds] at this; exact this
          exact ⟨ρ, x, w, g3, r, Ext.refl _ _ _, fun c0 cs1 => .one (step_ret_normal hfm hfd (kindNorm hf hdfr) g1 g2)⟩
        · cases hv
      · rename_i chain hmo hds hrnd hdfr
        split at hv
        · rename_i fn hfn
          cases hv
          have hmf := hf.mode
          rw [hmo] at hmf
          obtain ⟨ch, g1, g2⟩ := hmf
          have hfd : fr.defers = [] := by have := hf.ds; rw [hds] at this; exact this
          have hP := ok.F _ _ hfn
          rw [← hf.fn] at hP
          exact ⟨ρ, ch, w, g2, r, Ext.refl _ _ _, fun c0 cs1 => .one (step_pan g1 hfd hP)⟩
        · cases hv
      · cases hv
    · cases hv

/-- A call out of a drawn region, as a whole. -/
theorem callD_ok (ok : EnvOK P E) {self : Cfg → Option AEnd} (hS : SelfOK P E self) : CallOK P E (callD E self) := by
  intro ρ h w fr ops i rest k o tm out e r hm ht ho hw hC hout hv
  have hnd : (∀ d, out ≠ .defer d) → fr.roundOf = none ∨ ∀ c, o.op ≠ .defer c := fun hno => .inr fun c hc => by
    rw [hc] at hC
    obtain ⟨d, hd⟩ := aopC_defer hC
    exact hno d hd
  have fin : ∀ {a : AFrame} {f0 : Frame}, FR ρ a f0 → (∀ cs, step P (lone fr cs w) = .next (lone f0 (fr :: cs) w)) → self ⟨[a], h, none⟩ = some e → CallR P E ρ h w fr e := by
    intro a f0 hfr hst hse
    have hE := hS ⟨[a], h, none⟩ [f0] w ρ e ⟨rfl, ⟨_, _, rfl, hfr, rfl⟩, r⟩ (by simp) hse
    cases e with
    | ret v h' =>
      obtain ⟨ρ', x, w', h1, h2, h3, h4⟩ := hE
      exact ⟨ρ', x, w', h1, h2, h3, fun cs => .head (hst cs) (h4 fr cs)⟩
    | pan c h' =>
      obtain ⟨ρ', x, w', h1, h2, h3, h4⟩ := hE
      exact ⟨ρ', x, w', h1, h2, h3, fun cs => .head (hst cs) (h4 fr cs)⟩
  unfold callD at hv
  cases out with
  | enter g args =>
    simp only [] at hv
    split at hv
    · rename_i a hE
      obtain ⟨args', h1, h2⟩ := hout
      exact fin (enter_ok ok h2 hE).1 (fun cs => step_enter hm ht ho hw (hnd (by intro d h; cases h)) h1) hv
    · cases hv
  | round l args =>
    simp only [] at hv
    split at hv
    · rename_i a hE
      have hE' := hE
      unfold roundA at hE'
      split at hE'
      · rename_i lr hob
        split at hE'
        · rename_i hb
          rw [Nat.beq_eq] at hb
          obtain ⟨lo, r', args', g1, g2, g3, g4, g5⟩ := hout lr hob hb
          exact fin (round_ok g1 hob g3 g4 hE).2 (fun cs => step_round hm ht ho hw (hnd (by intro d h; cases h)) g5) hv
        · cases hE'
      · cases hE'
    · cases hv
  | _ => cases hv

theorem callT_ok (ok : EnvOK P E) {tbl : Out → Heap → Option AEnd} {self : Cfg → Option AEnd} (hT : CallOK P E tbl) (hS : SelfOK P E self) : CallOK P E (callT E tbl self) := by
  intro ρ h w fr ops i rest k o tm out e r hm ht ho hw hC hout hv
  unfold callT at hv
  split at hv
  · rename_i e' he
    cases hv
    exact hT ρ h w fr ops i rest k o tm out e r hm ht ho hw hC hout he
  · exact callD_ok ok hS ρ h w fr ops i rest k o tm out e r hm ht ho hw hC hout hv

theorem noTbl_ok : CallOK P E noTbl := by
  intro ρ h w fr ops i rest k o tm out e r hm ht ho hw hC hout hv
  cases hv

theorem arun_ok (ok : EnvOK P E) (hM : ModeHyp P E) (hD : ∀ cd, CallOK P E cd → DrawnHyp P E cd) {tbl : Out → Heap → Option AEnd} (hT : CallOK P E tbl) : ∀ n, SelfOK P E (arun E tbl n)
  | 0 => fun c fs w ρ e _ _ hv => by cases hv
  | n + 1 => by
    have ih := arun_ok ok hM hD hT n
    have hDn := hD _ (callT_ok ok hT ih)
    intro c fs w ρ e s hne hv
    simp only [arun] at hv
    split at hv
    · rename_i r0 hout
      cases hv
      exact outA_ok ok s hne hout
    · split at hv
      · rename_i c' hst
        rcases astep_ok ok hDn hM s hst with ⟨ρ', fs', w', s', hne', x, hs⟩ | ⟨ρ', v, y, w', h1, h2, h3, h4, h5, h6⟩
        · exact EndR.of_steps s.rel s'.rel x hs (ih c' fs' w' ρ' e s' hne' hv)
        · cases n with
          | zero => cases hv
          | succ n =>
            have hout : outA E c' = some (.ret v c'.h) := by
              unfold outA
              rw [h1]
              simp only [h2]
            simp only [arun, hout, Option.some.injEq] at hv
            subst hv
            exact ⟨ρ', y, w', h3, h4, h5, h6⟩
      · cases hv

/-- Many steps. -/
def asteps (E : Env) (self : Out → Heap → Option AEnd) : Nat → Cfg → Option Cfg
  | 0, c => some c
  | n + 1, c => match astep E self c with
    | some c' => asteps E self n c'
    | none => none

theorem asteps_ok (ok : EnvOK P E) {self : Out → Heap → Option AEnd} (hD : DrawnHyp P E self) (hM : ModeHyp P E) : ∀ {n : Nat} {c c' : Cfg} {fs : List Frame} {w : World} {ρ : Ren}, St E ρ c fs w → asteps E self n c = some c' → c'.fs ≠ [] →
    ∃ ρ' fs' w', St E ρ' c' fs' w' ∧ Ext ρ c.h w ρ' c'.h w' ∧ ∀ cs0, Steps P (mk (fs ++ cs0) w) (mk (fs' ++ cs0) w')
  | 0, c, c', fs, w, ρ, s, hv, _ => by cases hv; exact ⟨ρ, fs, w, s, Ext.refl _ _ _, fun _ => .refl _ _⟩
  | n + 1, c, c', fs, w, ρ, s, hv, hne => by
    simp only [asteps] at hv
    split at hv
    · rename_i c1 hst
      rcases astep_ok ok hD hM s hst with ⟨ρ1, fs1, w1, s1, hne1, x1, hs1⟩ | ⟨ρ', v, y, w', h1, h2, h3, h4, h5, h6⟩
      · obtain ⟨ρ2, fs2, w2, s2, x2, hs2⟩ := asteps_ok ok hD hM s1 hv hne
        exact ⟨ρ2, fs2, w2, s2, Ext.trans s.rel s1.rel x1 x2, fun cs0 => (hs1 cs0).trans (hs2 cs0)⟩
      · exfalso
        cases n with
        | zero =>
          cases hv
          exact hne h1
        | succ n =>
          simp only [asteps] at hv
          have : astep E self c1 = none := by
            unfold astep
            rw [h1]
          rw [this] at hv
          cases hv
    · cases hv
end
end Go.Eng

/- The engine: an operation hangs on what it names alone. -/
namespace Go.Eng
section
variable {E : Env} {h : Heap} {tm tm' : Tr AV}

theorem evs_congr {nG : Nat} : ∀ {l : List Operand}, (∀ x ∈ l, ev nG tm x = ev nG tm' x) → evs nG tm l = evs nG tm' l
  | [], _ => rfl
  | o :: os, ha => by
    simp only [evs]
    rw [ha o (List.mem_cons_self ..), evs_congr fun x hx => ha x (List.mem_cons_of_mem _ hx)]

theorem evO_congr {nG : Nat} {x : Option Operand} (ha : ∀ y, x = some y → ev nG tm y = ev nG tm' y) : evO nG tm x = evO nG tm' x := by
  cases x with
  | none => rfl
  | some y => simp only [evO]; rw [ha y rfl]

theorem partsA_congr {place : Nat → Option (Nat × Nat)} : ∀ {l : List (Nat × Operand)}, (∀ p ∈ l, ev E.nG tm p.2 = ev E.nG tm' p.2) → partsA E tm place l = partsA E tm' place l
  | [], _ => rfl
  | p :: l, ha => by
    have h1 := ha p (List.mem_cons_self ..)
    have h2 := partsA_congr (place := place) (l := l) fun q hq => ha q (List.mem_cons_of_mem _ hq)
    obtain ⟨i, x⟩ := p
    simp only [partsA]
    simp only [] at h1
    rw [h1, h2]

theorem aopQ_congr {o : Op} (ha : ∀ x ∈ o.operands, ev E.nG tm x = ev E.nG tm' x) : aopQ E tm h o = aopQ E tm' h o := by
  cases o
  case build t ps =>
    have hp : ∀ p ∈ ps.toList, ev E.nG tm p.2 = ev E.nG tm' p.2 := fun p hp => ha _ (by simp [Op.operands]; exact ⟨p.1, by simpa using hp⟩)
    simp only [aopQ_def, aopQ0]
    split <;> (try rfl)
    split <;> (try rfl)
    all_goals (try simp only [partsA_congr hp])
  case buildSlice t n ps => rfl
  case makeFunc fn first captured =>
    have h1 : evs E.nG tm first.toList = evs E.nG tm' first.toList := evs_congr fun x hx => ha x (by simp [Op.operands]; exact .inl (by simpa using hx))
    have h2 : evs E.nG tm captured.toList = evs E.nG tm' captured.toList := evs_congr fun x hx => ha x (by simp [Op.operands]; exact .inr (by simpa using hx))
    simp only [aopQ_def, aopQ0, h1, h2]
  case slice t x lo hi mx =>
    have h0 := ha x (by simp [Op.operands])
    have h1 : evO E.nG tm lo = evO E.nG tm' lo := evO_congr fun y hy => ha y (by simp [Op.operands, hy])
    have h2 : evO E.nG tm hi = evO E.nG tm' hi := evO_congr fun y hy => ha y (by simp [Op.operands, hy])
    have h3 : evO E.nG tm mx = evO E.nG tm' mx := evO_congr fun y hy => ha y (by simp [Op.operands, hy])
    simp only [aopQ_def, aopQ0, h0, h1, h2, h3]
  case call c =>
    have h1 : evs E.nG tm c.args.toList = evs E.nG tm' c.args.toList := evs_congr fun x hx => ha x (by simp [Op.operands, Call.operands]; exact .inr (by simpa using hx))
    simp only [aopQ_def, aopQ0, h1]
  all_goals (simp [Op.operands] at ha; simp [aopQ_def, aopQ0, ha])

theorem aopA_congr {n : Nat} {o : Op} (ha : ∀ x ∈ o.operands, ev E.nG tm x = ev E.nG tm' x) : aopA E tm n o = aopA E tm' n o := by
  cases o
  case buildSlice t k ps =>
    have hp : ∀ p ∈ ps.toList, ev E.nG tm p.2 = ev E.nG tm' p.2 := fun p hp => ha _ (by simp [Op.operands]; exact ⟨p.1, by simpa using hp⟩)
    simp only [aopA_def, aopA0, partsA_congr hp]
  case makeMap t r => cases r <;> rfl
  all_goals first
    | rfl
    | (simp [Op.operands] at ha; simp [aopA_def, aopA0, ha])

theorem callee_congr {c : Call} {f : Operand} (hc : c.callee = .value f) (ha : ∀ x ∈ c.operands, ev E.nG tm x = ev E.nG tm' x) : ev E.nG tm f = ev E.nG tm' f :=
  ha f (by simp [Call.operands, hc])

theorem args_congr {c : Call} (ha : ∀ x ∈ c.operands, ev E.nG tm x = ev E.nG tm' x) : evs E.nG tm c.args.toList = evs E.nG tm' c.args.toList :=
  evs_congr fun x hx => ha x (by simp [Call.operands]; exact .inr (by simpa using hx))

theorem aopW_congr {o : Op} (ha : ∀ x ∈ o.operands, ev E.nG tm x = ev E.nG tm' x) : aopW E tm h o = aopW E tm' h o := by
  cases o
  case call c =>
    simp only [aopW_def, aopW0]
    rw [args_congr (c := c) (by simpa [Op.operands] using ha)]
  all_goals first
    | rfl
    | (simp [Op.operands] at ha; simp [aopW_def, aopW0, ha])

theorem aopC_congr {o : Op} (ha : ∀ x ∈ o.operands, ev E.nG tm x = ev E.nG tm' x) : aopC E tm o = aopC E tm' o := by
  cases o
  case call c =>
    simp only [aopC_def, aopC0]
    rw [args_congr (c := c) (by simpa [Op.operands] using ha)]
    cases hc : c.callee with
    | value f =>
      have := callee_congr (E := E) hc (by simpa [Op.operands] using ha)
      simp only [this]
    | invoke r m => cases evs E.nG tm' c.args.toList <;> rfl
    | builtin b => cases evs E.nG tm' c.args.toList <;> cases b <;> rfl
  case defer c =>
    simp only [aopC_def, aopC0]
    rw [args_congr (c := c) (by simpa [Op.operands] using ha)]
    cases hc : c.callee with
    | value f =>
      have := callee_congr (E := E) hc (by simpa [Op.operands] using ha)
      cases evs E.nG tm' c.args.toList with
      | none => rfl
      | some args => simp only [this]
    | invoke r m => cases evs E.nG tm' c.args.toList <;> rfl
    | builtin b => cases evs E.nG tm' c.args.toList <;> rfl
  case panic x =>
    simp [Op.operands] at ha
    simp [aopC_def, aopC0, ha]
  all_goals rfl

/-- What does not look at the memory. -/
theorem aopQ_free {h' : Heap} {o : Op} (hr : isR o = false) : aopQ E tm h o = aopQ E tm h' o := by
  cases o
  case binOp op t x y yt =>
    simp only [isR] at hr
    have : ∀ a b, abin E h op t x y a b = abin E h' op t x y a b := by
      intro a b
      unfold abin
      split
      · rfl
      · rfl
      · rfl
      · rfl
      · split
        · cases op <;> first | (simp [isCmp] at hr; done) | rfl
        · rfl
    simp only [aopQ_def, aopQ0, this]
  all_goals first
    | rfl
    | (simp [isR] at hr; done)
end
end Go.Eng

/- The engine: what a plan for a drawn region says. -/
namespace Go.Eng
section
variable {E : Env} {all : List Oper}

theorem has_or {a b j : Nat} : has (Nat.lor a b) j = (has a j || has b j) := by
  show Nat.testBit (a ||| b) j = _
  rw [Nat.testBit_or]
  rfl

theorem has_pow {i j : Nat} : has (2 ^ i) j = true ↔ j = i := by
  show Nat.testBit (2 ^ i) j = true ↔ _
  rw [Nat.testBit_two_pow]
  simp only [decide_eq_true_eq]
  exact eq_comm

theorem has_zero {j : Nat} : has 0 j = false := Nat.zero_testBit j

theorem maskOf_has {ms : List Nat} {j : Nat} : ∀ {es : List Edge}, has (maskOf ms es) j = true → ∃ e ∈ es, Region.binds .any e = true ∧ (e.on = j ∨ ∃ m, lget ms e.on = some m ∧ has m j = true)
  | [], h => by simp [maskOf, has_zero] at h
  | e :: es, h => by
    simp only [maskOf] at h
    have rest : has (maskOf ms es) j = true → ∃ e' ∈ e :: es, Region.binds .any e' = true ∧ (e'.on = j ∨ ∃ m, lget ms e'.on = some m ∧ has m j = true) := fun h' => by
      obtain ⟨e', h1, h2⟩ := maskOf_has h'
      exact ⟨e', List.mem_cons_of_mem _ h1, h2⟩
    split at h
    · rename_i hb
      split at h
      · rename_i m hm
        rw [has_or, has_or] at h
        simp only [Bool.or_eq_true] at h
        rcases h with (h | h) | h
        · exact ⟨e, List.mem_cons_self .., hb, .inl (has_pow.1 h).symm⟩
        · exact ⟨e, List.mem_cons_self .., hb, .inr ⟨m, hm, h⟩⟩
        · exact rest h
      · exact rest h
    · exact rest h

theorem masksGo_get : ∀ {os : List Oper} {acc : List Nat} {i m : Nat}, (masksGo acc os)[i]? = some m → acc[i]? = some m ∨ ∃ o, acc.length ≤ i ∧ os[i - acc.length]? = some o ∧ m = maskOf ((masksGo acc os).take i) o.after.toList
  | [], acc, i, m, h => .inl h
  | o :: os, acc, i, m, h => by
    simp only [masksGo] at h
    rcases masksGo_get h with h1 | ⟨o', h1, h2, h3⟩
    · rcases Nat.lt_or_ge i acc.length with hi | hi
      · rw [List.getElem?_append_left hi] at h1
        exact .inl h1
      · rw [List.getElem?_append_right hi] at h1
        have hz : i - acc.length = 0 := by
          rcases Nat.eq_zero_or_pos (i - acc.length) with h0 | h0
          · exact h0
          · rw [List.getElem?_eq_none (by simp; omega)] at h1; cases h1
        rw [hz] at h1
        simp only [List.getElem?_cons_zero, Option.some.injEq] at h1
        refine .inr ⟨o, hi, by rw [hz]; rfl, ?_⟩
        have hia : i = acc.length := by omega
        have hpre : ∀ {os : List Oper} {acc : List Nat}, (masksGo acc os).take acc.length = acc := by
          intro os
          induction os with
          | nil => intro acc; simp [masksGo]
          | cons q qs ih =>
            intro acc
            simp only [masksGo]
            have := ih (acc := acc ++ [maskOf acc q.after.toList])
            have h2 := congrArg (List.take acc.length) this
            rw [List.take_take] at h2
            simpa [Nat.min_eq_left] using h2
        rw [hia, hpre]
        exact h1.symm
    · simp only [List.length_append, List.length_cons, List.length_nil] at h1 h2
      refine .inr ⟨o', by omega, ?_, h3⟩
      rw [show i - acc.length = (i - (acc.length + (0 + 1))) + 1 from by omega]
      simpa using h2

theorem masksGo_length : ∀ {os : List Oper} {acc : List Nat}, (masksGo acc os).length = acc.length + os.length
  | [], acc => by simp [masksGo]
  | o :: os, acc => by
    simp only [masksGo]
    rw [masksGo_length]
    simp
    omega

/-- The mask of the i-th. -/
def mk0 (all : List Oper) (i : Nat) : Nat := ((masksGo [] all)[i]?).getD 0

theorem mk0_has {i j : Nat} (hj : has (mk0 all i) j = true) : ∃ o, all[i]? = some o ∧ ∃ e ∈ o.after.toList, Region.binds .any e = true ∧ (e.on = j ∨ has (mk0 all e.on) j = true) := by
  unfold mk0 at hj
  cases hm : (masksGo [] all)[i]? with
  | none => rw [hm] at hj; simp [has_zero] at hj
  | some m =>
    rw [hm] at hj
    simp only [Option.getD_some] at hj
    rcases masksGo_get hm with h1 | ⟨o, _, h2, h3⟩
    · simp at h1
    · subst h3
      refine ⟨o, by simpa using h2, ?_⟩
      obtain ⟨e, g1, g2, g3⟩ := maskOf_has hj
      refine ⟨e, g1, g2, ?_⟩
      rcases g3 with g3 | ⟨m', g3, g4⟩
      · exact .inl g3
      · rw [lget_eq, List.getElem?_take] at g3
        split at g3
        · right
          unfold mk0
          rw [g3]
          exact g4
        · cases g3

theorem zipI_mem : ∀ {os : List Oper} {ms : List Nat} {i : Nat} {s : SI}, s ∈ zipI E all i os ms → ∃ j, s.i = i + j ∧ os[j]? = some s.o ∧ ms[j]? = some s.m ∧ s.lk = looks all s.o ∧ s.w = isW E s.o.op
  | [], _, _, _, h => by simp [zipI] at h
  | o :: os, [], _, _, h => by simp [zipI] at h
  | o :: os, m :: ms, i, s, h => by
    simp only [zipI, List.mem_cons] at h
    rcases h with rfl | h
    · exact ⟨0, rfl, rfl, rfl, rfl, rfl⟩
    · obtain ⟨j, h1, h2, h3, h4⟩ := zipI_mem h
      exact ⟨j + 1, by omega, by simpa using h2, by simpa using h3, h4⟩

theorem sched_mem {W : List SI} : ∀ {ws qs : List SI} {k : Nat} {s : SI}, s ∈ sched W k ws qs → s ∈ ws ∨ s ∈ qs
  | [], qs, k, s, h => by
    simp only [sched, List.mem_filter] at h
    exact .inr h.1
  | w :: ws, qs, k, s, h => by
    simp only [sched, List.mem_append, List.mem_filter, List.mem_cons] at h
    rcases h with h | h | h
    · exact .inr h.1
    · exact .inl (by simp [h])
    · rcases sched_mem h with h | h
      · exact .inl (List.mem_cons_of_mem _ h)
      · exact .inr h

theorem parted_mem {ws : List SI} {s : SI} (h : s ∈ (parted ws).1 ∨ s ∈ (parted ws).2) : s ∈ ws := by
  unfold parted at h
  split at h
  · rcases h with h | h
    · exact h
    · simp at h
  · rcases h with h | h
    · have := List.mem_reverse.1 h
      exact List.mem_reverse.1 ((List.dropWhile_sublist _).mem this)
    · have := List.mem_reverse.1 h
      exact List.mem_reverse.1 ((List.takeWhile_sublist _).mem this)

/-- Each one of the plan is what it says. -/
structure SOK (E : Env) (all : List Oper) (s : SI) : Prop where
  o : all[s.i]? = some s.o
  m : s.m = mk0 all s.i
  lk : s.lk = looks all s.o
  w : s.w = isW E s.o.op

theorem plan_mem {s : SI} (h : s ∈ (planOf E all).run ++ (planOf E all).tail) : SOK E all s := by
  have hz : s ∈ zipI E all 0 all (masksGo [] all) := by
    simp only [planOf, List.mem_append] at h
    rcases h with h | h
    · rcases sched_mem h with h | h
      · exact (List.mem_filter.1 (parted_mem (.inl h))).1
      · exact (List.mem_filter.1 h).1
    · exact (List.mem_filter.1 (parted_mem (.inr h))).1
  obtain ⟨j, h1, h2, h3, h4, h5⟩ := zipI_mem hz
  have hj : s.i = j := by omega
  exact ⟨by rw [hj]; exact h2, by unfold mk0; rw [hj, h3]; rfl, h4, h5⟩
end
end Go.Eng

/- The engine: the orders that may be drawn, and the masks. -/
namespace Go.Eng
section
variable {E : Env} {ops : Array Oper}

def Closed (ops : Array Oper) (listed : Array Bool) : Prop := ∀ i j, listed.getD i false = true → has (mk0 ops.toList i) j = true → listed.getD j false = true

theorem ready_mem {listed : Array Bool} {i : Nat} : i ∈ Region.ready .any ops listed ↔ i < ops.size ∧ listed.getD i true = false ∧ ∃ o, ops[i]? = some o ∧ ∀ e ∈ o.after.toList, Region.binds .any e = true → listed.getD e.on false = true := by
  unfold Region.ready
  simp only [List.mem_filter, List.mem_range, Bool.and_eq_true, Bool.not_eq_true']
  constructor
  · rintro ⟨h1, h2, h3⟩
    refine ⟨h1, h2, ops[i], by simp [h1], ?_⟩
    simp only [Array.getElem?_eq_getElem h1, Option.map_some, Option.getD_some, Array.all_eq_true', Bool.or_eq_true, Bool.not_eq_true'] at h3
    intro e he hb
    rcases h3 e (by simpa using he) with h | h
    · rw [hb] at h; cases h
    · exact h
  · rintro ⟨h1, h2, o, ho, h3⟩
    refine ⟨h1, h2, ?_⟩
    simp only [ho, Option.map_some, Option.getD_some, Array.all_eq_true', Bool.or_eq_true, Bool.not_eq_true']
    intro e he
    cases hb : Region.binds .any e with
    | false => exact .inl rfl
    | true => exact .inr (h3 e (by simpa using he) hb)

theorem ready_mask {listed : Array Bool} {i j : Nat} (hc : Closed ops listed) (hi : i ∈ Region.ready .any ops listed) (hj : has (mk0 ops.toList i) j = true) : listed.getD j false = true := by
  obtain ⟨_, _, o, ho, he⟩ := ready_mem.1 hi
  obtain ⟨o', ho', e, h1, h2, h3⟩ := mk0_has hj
  rw [Array.getElem?_toList, ho] at ho'
  cases ho'
  have := he e h1 h2
  rcases h3 with h3 | h3
  · rw [← h3]; exact this
  · exact hc _ _ this h3

theorem getD_set {listed : Array Bool} {i j : Nat} (hi : i < listed.size) : (listed.setIfInBounds i true).getD j false = if j = i then true else listed.getD j false := by
  simp only [Array.getD_eq_getD_getElem?]
  by_cases h : j = i
  · subst h
    simp [hi]
  · rw [if_neg h, Array.getElem?_setIfInBounds_ne (fun h' => h h'.symm)]

theorem closed_set {listed : Array Bool} {i : Nat} (hs : listed.size = ops.size) (hc : Closed ops listed) (hi : i ∈ Region.ready .any ops listed) : Closed ops (listed.setIfInBounds i true) := by
  have hlt := (ready_mem.1 hi).1
  intro a b ha hb
  rw [getD_set (by omega)] at ha ⊢
  split at ha
  · rename_i h
    subst h
    have := ready_mask hc hi hb
    split <;> first | rfl | exact this
  · have := hc a b ha hb
    split <;> first | rfl | exact this

theorem edgesOk_get : ∀ {os : List Oper} {k i : Nat} {o : Oper}, edgesOk k os = true → os[i]? = some o → ∀ e ∈ o.after.toList, Region.binds .any e = true → e.on < k + i
  | [], k, i, o, _, h => by simp at h
  | q :: os, k, i, o, he, h => by
    simp only [edgesOk, Bool.and_eq_true, List.all_eq_true] at he
    cases i with
    | zero =>
      simp only [List.getElem?_cons_zero, Option.some.injEq] at h
      subst h
      intro e h1 h2
      have := he.1 e h1
      rw [h2] at this
      simp only [Bool.not_true, Bool.false_or, Nat.blt_eq] at this
      omega
    | succ i =>
      intro e h1 h2
      have := edgesOk_get (i := i) he.2 (by simpa using h) e h1 h2
      omega

/-- As long as one is left, one is ready. -/
theorem ready_some {listed : Array Bool} (he : edgesOk 0 ops.toList = true) (hs : listed.size = ops.size) : ∀ (i : Nat), i < ops.size → listed.getD i false = false → ∃ j, j ∈ Region.ready .any ops listed := by
  intro i
  induction i using Nat.strongRecOn with
  | _ i ih =>
    intro hi hl
    by_cases hall : ∀ e ∈ (ops[i]).after.toList, Region.binds .any e = true → listed.getD e.on false = true
    · refine ⟨i, ready_mem.2 ⟨hi, ?_, ops[i], by simp [hi], hall⟩⟩
      have hil : i < listed.size := by omega
      simp only [Array.getD_eq_getD_getElem?, Array.getElem?_eq_getElem hil, Option.getD_some] at hl ⊢
      exact hl
    · simp only [Classical.not_forall] at hall
      obtain ⟨e, h1, h2, h3⟩ := hall
      have hlt := edgesOk_get (i := i) (o := ops[i]) he (by simp [hi]) e h1 h2
      have h3' : listed.getD e.on false = false := by simpa using h3
      exact ih e.on (by omega) (by omega) h3'

theorem ready_not {listed : Array Bool} {i : Nat} (hs : listed.size = ops.size) (hi : i ∈ Region.ready .any ops listed) : listed.getD i false = false := by
  obtain ⟨h1, h2, _⟩ := ready_mem.1 hi
  have hil : i < listed.size := by omega
  simp only [Array.getD_eq_getD_getElem?, Array.getElem?_eq_getElem hil, Option.getD_some] at h2 ⊢
  exact h2
end
end Go.Eng

/- The engine: a region whose order is drawn, in every order. -/
namespace Go.Eng
section
variable {P : Program} {ops : Array Oper}

theorem left_mem {listed : Array Bool} {i : Nat} (hi : i < ops.size) (hl : listed.getD i false = false) : i ∈ ((List.range ops.size).filter fun i => !listed.getD i false) :=
  List.mem_filter.2 ⟨List.mem_range.2 hi, by rw [hl]; rfl⟩

/-- How many are left. -/
def left (ops : Array Oper) (listed : Array Bool) : List Nat := (List.range ops.size).filter fun i => !listed.getD i false

theorem left_set {listed : Array Bool} {i : Nat} (hs : listed.size = ops.size) (hi : i < ops.size) (hl : listed.getD i false = false) : (left ops (listed.setIfInBounds i true)).length + 1 = (left ops listed).length := by
  have hmem : i ∈ left ops listed := left_mem hi hl
  have hnd : (left ops listed).Nodup := List.Nodup.sublist List.filter_sublist List.nodup_range
  have heq : left ops (listed.setIfInBounds i true) = (left ops listed).erase i := by
    rw [hnd.erase_eq_filter, left, left, List.filter_filter]
    apply List.filter_congr
    intro j _
    rw [getD_set (by omega)]
    by_cases h : j = i
    · subst h; simp
    · simp [h]
  rw [heq, List.length_erase_of_mem hmem]
  have := List.length_pos_of_mem hmem
  omega

theorem order_run {fr0 : Frame} {k : List Item} (he : edgesOk 0 ops.toList = true) (hm : fr0.mode = .run) (Inv : Array Bool → Array Value → World → Prop) (Fin : Frame → World → Prop)
    (hstep : ∀ listed tmps w i rest, listed.size = ops.size → Closed ops listed → i ∈ Region.ready .any ops listed → Inv listed tmps w →
      (∃ tmps' w', Inv (listed.setIfInBounds i true) tmps' w' ∧ ∀ cs, Steps P (lone { fr0 with tmps := tmps, todo := .inRegion ops (i :: rest) :: k } cs w) (lone { fr0 with tmps := tmps', todo := .inRegion ops rest :: k } cs w')) ∨
      (∃ fr' w', Fin fr' w' ∧ ∀ cs, Steps P (lone { fr0 with tmps := tmps, todo := .inRegion ops (i :: rest) :: k } cs w) (lone fr' cs w')))
    (hend : ∀ listed tmps w, listed.size = ops.size → (∀ i, i < ops.size → listed.getD i false = true) → Inv listed tmps w → Fin { fr0 with tmps := tmps, todo := k } w) :
    ∀ (fuel t : Nat) (listed : Array Bool) (tmps : Array Value) (w : World), listed.size = ops.size → Closed ops listed → (left ops listed).length = fuel → Inv listed tmps w →
      ∃ fr' w', Fin fr' w' ∧ ∀ cs, Steps P (lone { fr0 with tmps := tmps, todo := .inRegion ops (Region.linearise.go .any ops fuel t listed []) :: k } cs w) (lone fr' cs w') := by
  intro fuel
  induction fuel with
  | zero =>
    intro t listed tmps w hs hc hl hi
    have hall : ∀ i, i < ops.size → listed.getD i false = true := by
      intro i hlt
      cases hb : listed.getD i false with
      | true => rfl
      | false =>
        have hmem : i ∈ left ops listed := left_mem hlt hb
        have := List.length_pos_of_mem hmem
        omega
    refine ⟨_, w, hend listed tmps w hs hall hi, fun cs => .one ?_⟩
    simp only [Region.linearise.go, List.reverse_nil]
    exact step_rend (fr := { fr0 with tmps := tmps, todo := .inRegion ops [] :: k }) hm rfl
  | succ fuel ih =>
    intro t listed tmps w hs hc hl hi
    have hne : (left ops listed) ≠ [] := by intro h; rw [h] at hl; simp at hl
    obtain ⟨q, hq⟩ := List.exists_mem_of_ne_nil _ hne
    simp only [left, List.mem_filter, List.mem_range, Bool.not_eq_true'] at hq
    obtain ⟨j0, hj0⟩ := ready_some he hs q hq.1 hq.2
    have hrne : (Region.ready .any ops listed) ≠ [] := by intro h; rw [h] at hj0; simp at hj0
    have hpos : 0 < (Region.ready .any ops listed).length := List.length_pos_iff.2 hrne
    have hmod := Nat.mod_lt t hpos
    obtain ⟨i, hget⟩ : ∃ i, (Region.ready .any ops listed)[t % (Region.ready .any ops listed).length]? = some i := ⟨_, List.getElem?_eq_getElem hmod⟩
    have hir : i ∈ Region.ready .any ops listed := List.mem_of_getElem? hget
    have hgo : Region.linearise.go .any ops (fuel + 1) t listed [] = i :: Region.linearise.go .any ops fuel (t / (Region.ready .any ops listed).length) (listed.setIfInBounds i true) [] := by
      simp only [Region.linearise.go]
      change (match (Region.ready .any ops listed)[t % (Region.ready .any ops listed).length]? with
        | some i => Region.linearise.go .any ops fuel (t / (Region.ready .any ops listed).length) (listed.setIfInBounds i true) [i]
        | none => [].reverse) = _
      rw [hget]
      simp only []
      rw [linearise_go_acc, List.reverse_singleton, List.singleton_append]
    rw [hgo]
    rcases hstep listed tmps w i _ hs hc hir hi with ⟨tmps', w', h1, h2⟩ | ⟨fr', w', h1, h2⟩
    · have hlt := (ready_mem.1 hir).1
      have hlf := left_set hs hlt (ready_not hs hir)
      obtain ⟨fr', w2, g1, g2⟩ := ih (t / (Region.ready .any ops listed).length) _ tmps' w' (by simpa using hs) (closed_set hs hc hir) (by omega) h1
      exact ⟨fr', w2, g1, fun cs => (h2 cs).trans (g2 cs)⟩
    · exact ⟨fr', w', h1, h2⟩

theorem left_all : (left ops (Array.replicate ops.size false)).length = ops.size := by
  have : left ops (Array.replicate ops.size false) = List.range ops.size := by
    unfold left
    rw [List.filter_eq_self]
    intro i hi
    simp only [List.mem_range] at hi
    simp [Array.getD_eq_getD_getElem?, hi]
  rw [this, List.length_range]

theorem closed_none : Closed ops (Array.replicate ops.size false) := by
  intro i j hi
  simp only [Array.getD_eq_getD_getElem?, Array.getElem?_replicate] at hi
  split at hi <;> simp at hi

/-- A region that is drawn, from its beginning. -/
theorem region_run {fr : Frame} {id : Nat} {k : List Item} {w : World} (hmx : P.follows .mixedOrders = true) (he : edgesOk 0 ops.toList = true) (hm : fr.mode = .run) (ht : fr.todo = .code (.region id ops true) :: k)
    (Inv : Array Bool → Array Value → World → Prop) (Fin : Frame → World → Prop)
    (hstep : ∀ listed tmps w i rest, listed.size = ops.size → Closed ops listed → i ∈ Region.ready .any ops listed → Inv listed tmps w →
      (∃ tmps' w', Inv (listed.setIfInBounds i true) tmps' w' ∧ ∀ cs, Steps P (lone { fr with tmps := tmps, todo := .inRegion ops (i :: rest) :: k } cs w) (lone { fr with tmps := tmps', todo := .inRegion ops rest :: k } cs w')) ∨
      (∃ fr' w', Fin fr' w' ∧ ∀ cs, Steps P (lone { fr with tmps := tmps, todo := .inRegion ops (i :: rest) :: k } cs w) (lone fr' cs w')))
    (hend : ∀ listed tmps w, listed.size = ops.size → (∀ i, i < ops.size → listed.getD i false = true) → Inv listed tmps w → Fin { fr with tmps := tmps, todo := k } w)
    (h0 : ∀ w' : World, w'.heap = w.heap → Kpt w w' → Inv (Array.replicate ops.size false) fr.tmps w') : ∃ fr' w', Fin fr' w' ∧ ∀ cs, Steps P (lone fr cs w) (lone fr' cs w') := by
  obtain ⟨fr', w', h1, h2⟩ := order_run (fr0 := fr) he hm Inv Fin hstep hend ops.size (w.tape w.drawn (.order fr.fn id)) (Array.replicate ops.size false) fr.tmps { w with drawn := w.drawn + 1 } (by simp) closed_none left_all (h0 _ rfl ⟨rfl, rfl, rfl⟩)
  refine ⟨fr', w', h1, fun cs => .head (step_lone_go ?_) (h2 cs)⟩
  simp [stepG, hm, stepG.exec, ht, choose, Sem.run, Question.forced, Question.cut, Region.schedule, hmx, Region.linearise]
end
end Go.Eng

/- The engine: what it did in a drawn region, one entry for each operation. -/
namespace Go.Eng

/-- An operation, and how the engine stood ahead of it and behind it. -/
structure Ent where
  s : SI
  tm : Tr AV
  g : Heap
  h : Heap
  hs : List (Nat × Heap)
  tm' : Tr AV
  h' : Heap

section
variable (E : Env) (self : Out → Heap → Option AEnd) (sz : Nat) (all : List Oper)

def EntOK (a : Ent) : Prop :=
  match a.s.w with
  | false => stepQ E sz all a.hs a.g a.s a.tm a.h = some (a.tm', a.h')
  | true => stepW E self sz all a.s a.tm a.h = some (.next a.tm' a.h') ∧ a.h.next ≤ a.h'.next

/-- The memory behind the last writer, behind an entry. -/
def Ent.g' (a : Ent) : Heap := match a.s.w with | false => a.g | true => a.h'
def Ent.hs' (a : Ent) : List (Nat × Heap) := match a.s.w with | false => a.hs | true => (a.s.i, a.g) :: a.hs

def Chained : Tr AV → Heap → Heap → List (Nat × Heap) → List Ent → Prop
  | _, _, _, _, [] => True
  | tm, g, h, hs, a :: l => a.tm = tm ∧ a.g = g ∧ a.h = h ∧ a.hs = hs ∧ EntOK E self sz all a ∧ Chained a.tm' a.g' a.h' a.hs' l

def endTm (tm : Tr AV) : List Ent → Tr AV
  | [] => tm
  | a :: l => endTm a.tm' l
def endH (h : Heap) : List Ent → Heap
  | [] => h
  | a :: l => endH a.h' l

variable {E self sz all}

theorem runQ_chain {g : Heap} {hs : List (Nat × Heap)} : ∀ {l : List SI} {tm : Tr AV} {h : Heap} {res : Tr AV × Heap}, runQ E sz all hs g l tm h = some res →
    ∃ es, es.map (·.s) = l ∧ Chained E self sz all tm g h hs es ∧ res = (endTm tm es, endH h es) ∧ ∀ s ∈ l, s.w = false
  | [], tm, h, res, hv => by
    simp only [runQ, Option.some.injEq] at hv
    subst hv
    exact ⟨[], rfl, trivial, rfl, by simp⟩
  | s :: l, tm, h, res, hv => by
    simp only [runQ] at hv
    split at hv
    · cases hv
    · rename_i hw
      split at hv
      · rename_i tm' h' hq
        obtain ⟨es, h1, h2, h3, h4⟩ := runQ_chain hv
        refine ⟨⟨s, tm, g, h, hs, tm', h'⟩ :: es, by simp [h1], ⟨rfl, rfl, rfl, rfl, ?_, ?_⟩, h3, ?_⟩
        · simp only [EntOK, hw]; exact hq
        · simpa only [Ent.g', Ent.hs', hw] using h2
        · intro x hx
          rcases List.mem_cons.1 hx with rfl | hx
          · exact hw
          · exact h4 x hx
      · cases hv

variable (E self sz all) in
/-- What a run comes to, as a list of entries. -/
def ChainR (tm : Tr AV) (g h : Heap) (hs : List (Nat × Heap)) (l : List SI) : DOut → Prop
  | .done tm' h' => ∃ es : List Ent, es.map (·.s) = l ∧ Chained E self sz all tm g h hs es ∧ tm' = endTm tm es ∧ h' = endH h es
  | .pan i c h' => ∃ (pre : List SI) (s : SI) (post : List SI) (es qs : List Ent), l = pre ++ s :: post ∧ es.map (·.s) = pre ∧ Chained E self sz all tm g h hs (es ++ qs) ∧ qs.map (·.s) = (post.filter fun b => !has b.m i) ∧
        (∀ x ∈ post.filter fun b => !has b.m i, x.w = false) ∧ s.i = i ∧ s.w = true ∧ stepW E self sz all s (endTm tm es) (endH h es) = some (.pan c h')

theorem runD_chain : ∀ {l : List SI} {tm : Tr AV} {g h : Heap} {hs : List (Nat × Heap)} {res : DOut}, runD E self sz all l tm g h hs = some res → ChainR E self sz all tm g h hs l res
  | [], tm, g, h, hs, res, hv => by
    simp only [runD, Option.some.injEq] at hv
    subst hv
    exact ⟨[], rfl, trivial, rfl, rfl⟩
  | s :: l, tm, g, h, hs, res, hv => by
    simp only [runD] at hv
    have put : ∀ {tm' : Tr AV} {h' : Heap}, EntOK E self sz all ⟨s, tm, g, h, hs, tm', h'⟩ →
        runD E self sz all l tm' (Ent.g' ⟨s, tm, g, h, hs, tm', h'⟩) h' (Ent.hs' ⟨s, tm, g, h, hs, tm', h'⟩) = some res →
        ChainR E self sz all tm g h hs (s :: l) res := by
      intro tm' h' he hr
      have ih := runD_chain hr
      cases res with
      | done tm2 h2 =>
        obtain ⟨es, h1, h3, h4, h5⟩ := ih
        exact ⟨⟨s, tm, g, h, hs, tm', h'⟩ :: es, by simp [h1], ⟨rfl, rfl, rfl, rfl, he, h3⟩, h4, h5⟩
      | pan i c h2 =>
        obtain ⟨pre, s', post, es, qs, h1, h3, h4, h5, h6, h7, h8, h9⟩ := ih
        exact ⟨s :: pre, s', post, ⟨s, tm, g, h, hs, tm', h'⟩ :: es, qs, by simp [h1], by simp [h3], ⟨rfl, rfl, rfl, rfl, he, h4⟩, h5, h6, h7, h8, h9⟩
    split at hv
    · rename_i hw
      split at hv
      · rename_i tm' h' hq
        exact put (tm' := tm') (h' := h') (by simp only [EntOK, hw]; exact hq) (by simpa only [Ent.g', Ent.hs', hw] using hv)
      · cases hv
    · rename_i hw
      split at hv
      · rename_i tm' h' hq
        split at hv
        · rename_i hle
          rw [Nat.ble_eq] at hle
          exact put (tm' := tm') (h' := h') (by simp only [EntOK, hw]; exact ⟨hq, hle⟩) (by simpa only [Ent.g', Ent.hs', hw] using hv)
        · cases hv
      · rename_i c h' hq
        split at hv
        · rename_i r0 hrq
          cases hv
          obtain ⟨qs, h1, h2, h3, h4⟩ := runQ_chain (self := self) hrq
          exact ⟨[], s, l, [], qs, rfl, rfl, h2, h1, h4, rfl, hw, hq⟩
        · cases hv
      · cases hv
end
end Go.Eng

/- The engine: entries, looked at one by one. -/
namespace Go.Eng
section
variable {E : Env} {self : Out → Heap → Option AEnd} {sz : Nat} {all : List Oper}

theorem putT_get {tm tm' : Tr AV} {dst : Option Tmp} {v : AV} (h : putT sz tm dst v = some tm') (t : Tmp) : tm'.get t = if dst = some t then some v else tm.get t := by
  unfold putT at h
  cases dst with
  | none =>
    cases h
    rw [if_neg (by intro h; cases h)]
  | some d =>
    simp only [] at h
    split at h
    · cases h
      rw [Tr.get_set]
      by_cases e : t = d
      · subst e; simp
      · rw [if_neg e, if_neg (by intro h; cases h; exact e rfl)]
    · cases h

/-- An entry writes its own temporary, and no other one. -/
theorem ent_put {a : Ent} (h : EntOK E self sz all a) : ∃ v, putT sz a.tm a.s.o.dst v = some a.tm' := by
  unfold EntOK at h
  split at h
  · unfold stepQ at h
    split at h
    · cases h
    · split at h
      · rename_i hp; simp only [Option.some.injEq, Prod.mk.injEq] at h; rw [← h.1]; exact ⟨_, hp⟩
      · cases h
    · split at h
      · split at h
        · split at h
          · split at h
            · split at h
              · rename_i hp; simp only [Option.some.injEq, Prod.mk.injEq] at h; rw [← h.1]; exact ⟨_, hp⟩
              · cases h
            · cases h
          · split at h
            · rename_i hp; simp only [Option.some.injEq, Prod.mk.injEq] at h; rw [← h.1]; exact ⟨_, hp⟩
            · cases h
        · cases h
      · split at h
        · split at h
          · rename_i hp; simp only [Option.some.injEq, Prod.mk.injEq] at h; rw [← h.1]; exact ⟨_, hp⟩
          · cases h
        · cases h
      · cases h
  · replace h := h.1
    unfold stepW at h
    split at h
    · cases h
    · split at h
      · rename_i hp; simp only [Option.some.injEq, WOut.next.injEq] at h; rw [← h.1]; exact ⟨_, hp⟩
      · cases h
    · split at h
      · split at h
        · split at h
          · rename_i hp; simp only [Option.some.injEq, WOut.next.injEq] at h; rw [← h.1]; exact ⟨_, hp⟩
          · cases h
        · cases h
      · split at h
        · split at h
          · rename_i hp; simp only [Option.some.injEq, WOut.next.injEq] at h; rw [← h.1]; exact ⟨_, hp⟩
          · cases h
        · split at h
          · split at h
            · rename_i hp; simp only [Option.some.injEq, WOut.next.injEq] at h; rw [← h.1]; exact ⟨_, hp⟩
            · cases h
          · cases h
          · cases h
        · cases h
      · cases h

theorem endTm_other {t : Tmp} : ∀ {es : List Ent} {tm : Tr AV} {g h : Heap} {hs : List (Nat × Heap)}, Chained E self sz all tm g h hs es → (∀ a ∈ es, a.s.o.dst ≠ some t) → (endTm tm es).get t = tm.get t
  | [], tm, g, h, hs, _, _ => rfl
  | a :: es, tm, g, h, hs, hc, hn => by
    obtain ⟨h1, _, _, _, h5, h6⟩ := hc
    simp only [endTm]
    rw [endTm_other h6 fun b hb => hn b (List.mem_cons_of_mem _ hb)]
    obtain ⟨v, hp⟩ := ent_put h5
    rw [putT_get hp, if_neg (hn a (List.mem_cons_self ..)), h1]

def endG (g : Heap) : List Ent → Heap
  | [] => g
  | a :: l => endG a.g' l
def endHs (hs : List (Nat × Heap)) : List Ent → List (Nat × Heap)
  | [] => hs
  | a :: l => endHs a.hs' l

theorem chained_append : ∀ {es fs : List Ent} {tm : Tr AV} {g h : Heap} {hs : List (Nat × Heap)}, Chained E self sz all tm g h hs (es ++ fs) ↔
    Chained E self sz all tm g h hs es ∧ Chained E self sz all (endTm tm es) (endG g es) (endH h es) (endHs hs es) fs
  | [], fs, tm, g, h, hs => by simp [Chained, endTm, endG, endH, endHs]
  | a :: es, fs, tm, g, h, hs => by
    simp only [List.cons_append, Chained, endTm, endG, endH, endHs, chained_append (es := es)]
    constructor
    · rintro ⟨h1, h2, h3, h4, h5, h6, h7⟩; exact ⟨⟨h1, h2, h3, h4, h5, h6⟩, h7⟩
    · rintro ⟨⟨h1, h2, h3, h4, h5, h6⟩, h7⟩; exact ⟨h1, h2, h3, h4, h5, h6, h7⟩
end
end Go.Eng

/- The engine: makes that ran ahead of their place. -/
namespace Go.Eng
section
variable {P : Program} {E : Env} {ρ : Ren} {h : Heap} {w w' : World}

/-- The names below a bound. -/
def Ren.cut (ρ : Ren) (N : Nat) : Ren := fun n => if n < N then ρ n else none

theorem Ren.cut_le (ρ : Ren) (N : Nat) : (ρ.cut N).le ρ := by
  intro n l h
  unfold Ren.cut at h
  split at h
  · exact h
  · cases h

theorem Ren.cut_some {ρ : Ren} {N n : Nat} {l : Loc} : ρ.cut N n = some l ↔ n < N ∧ ρ n = some l := by
  unfold Ren.cut
  split
  · rename_i h; simp [h]
  · rename_i h; simp [h]

theorem Ren.cut_put (ρ : Ren) (N : Nat) (l : Loc) (h : ρ N = some l) : (ρ.cut N).put N l = ρ.cut (N + 1) := by
  funext n
  unfold Ren.put Ren.cut
  by_cases e : n = N
  · subst e; simp [h]
  · simp only [e, if_false]
    by_cases h1 : n < N
    · rw [if_pos h1, if_pos (by omega)]
    · rw [if_neg h1, if_neg (by omega)]

/-- A make that ran ahead is taken in. -/
theorem take_in (r : Rel E.nG (ρ.cut h.next) h w) {o : AObj} {l : Loc} (hl : ρ h.next = some l) (hlt : l.b < w.heap.size) (hown : ∀ n l', live h n = true → ρ.cut h.next n = some l' → l'.b ≠ l.b)
    (ho : OR (ρ.cut (h.next + 1)) l o w.heap[l.b]?) : Rel E.nG (ρ.cut (h.new o).next) (h.new o) w := by
  have := r.new (w' := w) (l := l) (o := o) (fun _ _ _ _ => rfl) (Nat.le_refl _) (.inr hown) hlt (by rw [Ren.cut_put _ _ _ hl]; exact ho)
  rw [Ren.cut_put _ _ _ hl] at this
  exact this
end
end Go.Eng

/- The engine: the temporaries that an operation looks at, alone. -/
namespace Go.Eng
section
variable {E : Env} {ρ : Ren} {tm : Tr AV} {tmps : Array Value}

def pick (tm : Tr AV) : List Tmp → Tr AV
  | [] => .nil
  | t :: l => match tm.get t with
    | some v => (pick tm l).set t v
    | none => pick tm l

theorem pick_get : ∀ (l : List Tmp) (t : Tmp), (pick tm l).get t = if t ∈ l then tm.get t else none
  | [], t => by simp [pick, Tr.get_nil]
  | u :: l, t => by
    simp only [pick]
    split
    · rename_i v hv
      rw [Tr.get_set, pick_get l t]
      by_cases e : t = u
      · subst e; simp [hv]
      · simp [e]
    · rename_i hv
      rw [pick_get l t]
      by_cases e : t = u
      · subst e; simp [hv]
      · simp [e]

/-- What an operation looks at is related: so are the temporaries that were picked. -/
theorem pick_TR {l : List Tmp} (h : ∀ t ∈ l, ∀ v, tm.get t = some v → R ρ v (tmps.getD t undef)) : TR ρ (pick tm l) tmps := by
  intro t v hv
  rw [pick_get] at hv
  split at hv
  · rename_i hm; exact h t hm v hv
  · cases hv

theorem mem_looks {all : List Oper} {o : Oper} {t : Tmp} (h : Operand.tmp t ∈ o.op.operands) : t ∈ looks all o := by
  unfold looks
  refine List.mem_append.2 (.inl (List.mem_filterMap.2 ⟨.tmp t, by simpa using h, rfl⟩))

theorem pick_ev {all : List Oper} {o : Oper} {nG : Nat} : ∀ x ∈ o.op.operands, ev nG tm x = ev nG (pick tm (looks all o)) x := by
  intro x hx
  cases x with
  | tmp t =>
    simp only [ev]
    rw [pick_get, if_pos (mem_looks hx)]
  | _ => rfl

theorem guard_looks {ops : Array Oper} {o p : Oper} {j : Nat} {b : Bool} {t : Tmp} (hg : o.guard = some (j, b)) (hp : ops[j]? = some p) (hd : p.dst = some t) : t ∈ looks ops.toList o := by
  unfold looks
  refine List.mem_append.2 (.inr ?_)
  rw [hg]
  simp only [lget_eq, Array.getElem?_toList, hp, hd]
  simp
end
end Go.Eng

/- The engine: one operation of a drawn region that writes nothing, at whatever time. -/
namespace Go.Eng
section
variable {P : Program} {E : Env} {self : Out → Heap → Option AEnd} {ρ : Ren} {w : World} {sz : Nat} {ops : Array Oper}

/-- Is it a make, and of what? -/
def Ent.Made (E : Env) (all : List Oper) (a : Ent) (ob : AObj) : Prop :=
  a.s.w = false ∧ wantedA all a.tm a.s.o = some true ∧ kindOf E a.s.o.op = .a ∧ (∃ v, aopA E a.tm a.h.next a.s.o.op = some (v, ob)) ∧ a.h' = a.h.new ob

/-- What an entry that writes nothing answers. -/
theorem stepQ_split {a : Ent} (hw : a.s.w = false) (he : EntOK E self sz ops.toList a) :
    ∃ v, putT sz a.tm a.s.o.dst v = some a.tm' ∧
      ((wantedA ops.toList a.tm a.s.o = some false ∧ v = .tup [] ∧ a.h' = a.h) ∨
       (wantedA ops.toList a.tm a.s.o = some true ∧ kindOf E a.s.o.op = .q ∧ aopQ E a.tm a.g a.s.o.op = some v ∧ (isR a.s.o.op = true → backOk E a.tm a.s.o.op v a.s.m a.hs = true) ∧ a.h' = a.h) ∨
       (wantedA ops.toList a.tm a.s.o = some true ∧ kindOf E a.s.o.op = .a ∧ ∃ ob, aopA E a.tm a.h.next a.s.o.op = some (v, ob) ∧ a.h' = a.h.new ob)) := by
  simp only [EntOK, hw] at he
  unfold stepQ at he
  split at he
  · cases he
  · rename_i hwa
    split at he
    · rename_i hp
      simp only [Option.some.injEq, Prod.mk.injEq] at he
      exact ⟨_, by rw [← he.1]; exact hp, .inl ⟨hwa, rfl, he.2.symm⟩⟩
    · cases he
  · rename_i hwa
    split at he
    · rename_i hk
      split at he
      · rename_i v hq
        split at he
        · rename_i hr
          split at he
          · rename_i hb
            split at he
            · rename_i hp
              simp only [Option.some.injEq, Prod.mk.injEq] at he
              exact ⟨v, by rw [← he.1]; exact hp, .inr (.inl ⟨hwa, hk, hq, fun _ => hb, he.2.symm⟩)⟩
            · cases he
          · cases he
        · rename_i hr
          split at he
          · rename_i hp
            simp only [Option.some.injEq, Prod.mk.injEq] at he
            exact ⟨v, by rw [← he.1]; exact hp, .inr (.inl ⟨hwa, hk, hq, fun h => (by rw [h] at hr; cases hr), he.2.symm⟩)⟩
          · cases he
      · cases he
    · rename_i hk
      split at he
      · rename_i v ob hq
        split at he
        · rename_i hp
          simp only [Option.some.injEq, Prod.mk.injEq] at he
          exact ⟨v, by rw [← he.1]; exact hp, .inr (.inr ⟨hwa, hk, ob, hq, he.2.symm⟩)⟩
        · cases he
      · cases he
    · cases he

theorem notDefer_q {o : Op} (h : kindOf E o = .q ∨ kindOf E o = .a) : ∀ c, o ≠ .defer c := by
  intro c hc
  subst hc
  rcases h with h | h <;> cases h

/-- One that writes nothing takes its step. -/
theorem quiet_step (ok : EnvOK P E) {a : Ent} (hw : a.s.w = false) (he : EntOK E self sz ops.toList a) (hso : SOK E ops.toList a.s) {G : Heap} (rq : RelQ E.nG ρ G w) {fr : Frame} {rest : List Nat} {k : List Item}
    (hm : fr.mode = .run) (ht : fr.todo = .inRegion ops (a.s.i :: rest) :: k) (htm : ∀ t ∈ a.s.lk, ∀ v, a.tm.get t = some v → R ρ v (fr.tmps.getD t undef))
    (hG : ∀ v, kindOf E a.s.o.op = .q → aopQ E a.tm a.g a.s.o.op = some v → (isR a.s.o.op = true → backOk E a.tm a.s.o.op v a.s.m a.hs = true) → aopQ E a.tm G a.s.o.op = some v) :
    ∃ v y w', putT sz a.tm a.s.o.dst v = some a.tm' ∧ (∀ cs, step P (lone fr cs w) = .next (lone (fr.finish y) cs w')) ∧
      ((w' = w ∧ a.h' = a.h ∧ R ρ v y) ∨
       (∃ ob ob' c s, a.Made E ops.toList ob ∧ w' = w.alloc ob' ∧ ∀ ρ', ρ.le ρ' → ρ' a.h.next = some ⟨w.heap.size, 0, c, s⟩ → R ρ' v y ∧ OR ρ' ⟨w.heap.size, 0, c, s⟩ ob (some ob'))) := by
  obtain ⟨v, hp, hcase⟩ := stepQ_split hw he
  have hoi : ops[a.s.i]? = some a.s.o := by rw [← Array.getElem?_toList]; exact hso.o
  have htm' : ∀ t ∈ looks ops.toList a.s.o, ∀ v, a.tm.get t = some v → R ρ v (fr.tmps.getD t undef) := by rw [← hso.lk]; exact htm
  have hwant : ∀ {b : Bool}, wantedA ops.toList a.tm a.s.o = some b → Region.wanted a.s.o (yielded ops fr.tmps) = b := fun hb =>
    wanted_ok (ρ := ρ) rfl (fun t v hg j w p hgu hpj hd => htm' t (guard_looks hgu hpj hd) v hg) hb
  have hev := ev_ok rq (f := fr) (pick_TR htm')
  have hcong : ∀ x ∈ a.s.o.op.operands, ev E.nG a.tm x = ev E.nG (pick a.tm (looks ops.toList a.s.o)) x := pick_ev
  rcases hcase with ⟨hwa, rfl, hh⟩ | ⟨hwa, hk, hq, hb, hh⟩ | ⟨hwa, hk, ob, hq, hh⟩
  · exact ⟨_, undef, w, hp, fun cs => step_unwanted hm ht hoi (hwant hwa), .inl ⟨rfl, hh, by simp [R, RL, undef]⟩⟩
  · have hq' := hG v hk hq hb
    rw [aopQ_congr hcong] at hq'
    obtain ⟨y, h1, h2⟩ := aopQ_ok ok rq hev hq'
    exact ⟨v, y, w, hp, fun cs => step_value hm ht hoi (hwant hwa) (.inr (notDefer_q (.inl hk))) h1, .inl ⟨rfl, hh, h2⟩⟩
  · have hq' := hq
    rw [aopA_congr hcong] at hq'
    obtain ⟨y, ob', c, s, h1, h2⟩ := aopA_ok (w := w) ok hev hq'
    exact ⟨v, y, _, hp, fun cs => step_value hm ht hoi (hwant hwa) (.inr (notDefer_q (.inr hk))) h1, .inr ⟨ob, ob', c, s, ⟨hw, hwa, hk, ⟨v, hq⟩, hh⟩, rfl, h2⟩⟩
end
end Go.Eng
