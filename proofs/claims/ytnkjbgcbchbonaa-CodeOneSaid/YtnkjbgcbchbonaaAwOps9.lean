/- A layer of abstract values over the model's machine: own work for this claim, part AwOps9. -/
import Derived.Test.YtnkjbgcbchbonaaAwOps8
import Derived.MapKept
set_option linter.unusedSimpArgs false
set_option linter.unusedVariables false
namespace Go.AW
open Go Go.RowKit

variable {P : Program} {G : Gh} {σ : AS} {w : World} {K Pn : AV → AS → Prop}

/-! ## texts gone through; slices that are made -/

theorem Inv.allocIt (h : Inv P G σ w) (o : Obj) (blk : ABlk) (hblk : blk.isIter = true) (hok : ItOk (G.bind w.heap.size) (w.alloc o) blk w.heap.size) :
    ∃ G', G.Le G' ∧ G'.inj G.top = some w.heap.size ∧ Inv P G' (σ.set G.top blk) (w.alloc o) := by
  have hle := G.bind_le w.heap.size (h.top _ (Nat.le_refl _)).1
  have hb := h.bind o
  refine ⟨_, hle, by simp [Gh.bind], hb.below, hb.base, hb.mem, hb.top, (fun i b e => ⟨(hb.injB i b e).1, (hb.injB i b e).2.1, fun ty cs hn => (hb.injB i b e).2.2 ty cs (by
    by_cases hi : i = G.top
    · subst hi; simp [AS.set] at hn; subst hn; cases hblk
    · simpa [AS.set, hi] using hn)⟩), hb.inj1, ?_, ?_, ?_, ?_, hb.own⟩
  · intro i ty cs e
    by_cases hi : i = G.top
    · simp [AS.set, hi] at e; subst e; cases hblk
    · simp [AS.set, hi] at e; exact hb.cells i ty cs e
  · intro i es e
    by_cases hi : i = G.top
    · simp [AS.set, hi] at e; subst e; cases hblk
    · simp [AS.set, hi] at e; exact hb.maps i es e
  · intro i s p e
    by_cases hi : i = G.top
    · subst hi
      simp [AS.set] at e
      subst e
      exact ⟨w.heap.size, by simp [Gh.bind], hok⟩
    · simp [AS.set, hi] at e; exact hb.iters i s p e
  · intro i n e
    by_cases hi : i = G.top
    · simp [AS.set, hi] at e; subst e; cases hblk
    · simp [AS.set, hi] at e; exact hb.tok i n e

/-- An iterator, moved. -/
theorem Inv.setIt (h : Inv P G σ w) {id b : Nat} {o0 : Obj} (hb : G.inj id = some b) (hw : w.heap[b]? = some o0) (hc0 : ∀ c e f, o0 ≠ .cells c e f) (hm0 : ∀ ms cl, o0 ≠ .map ms cl) (o : Obj) (blk : ABlk) (hblk : blk.isIter = true)
    (hok : ItOk G { w with heap := w.heap.setIfInBounds b o } blk b) :
    Inv P G (σ.set id blk) { w with heap := w.heap.setIfInBounds b o } := by
  have hlt := lt_of_heap hw
  have hB := h.injB id b hb
  have other : ∀ k, k ≠ b → (w.heap.setIfInBounds b o)[k]? = w.heap[k]? := fun k hk => Array.getElem?_setIfInBounds_ne (fun e => hk e.symm)
  have same : (w.heap.setIfInBounds b o)[b]? = some o := by simp [hlt]
  have hmem : ∀ o, G.mem b o = none := by
    intro o'
    cases hm : G.mem b o' with
    | none => rfl
    | some v =>
      have := (h.mem b o' v hm).1
      simp only [World.cell?, hw] at this
      cases o0 with
      | cells c e f => exact absurd rfl (hc0 c e f)
      | _ => simp at this
  refine ⟨⟨h.below.os, h.below.tape, h.below.output, by simpa using h.below.size, fun k hk => by
    have hkb : k ≠ b := by have := hB.1; omega
    rw [show ({ w with heap := w.heap.setIfInBounds b o } : World).heap[k]? = (w.heap.setIfInBounds b o)[k]? from rfl, other k hkb]
    exact h.below.block k hk⟩, h.base, ?_, h.top, ?_, h.inj1, ?_, ?_, ?_, ?_, ?_⟩
  · intro b' o v em
    have hne : b' ≠ b := by intro e'; subst e'; rw [hmem o] at em; cases em
    exact ⟨by rw [World.cell?_of_block (w := w) (other b' hne)]; exact (h.mem b' o v em).1, (h.mem b' o v em).2⟩
  · intro j c ej
    have := h.injB j c ej
    refine ⟨this.1, by simpa using this.2.1, fun ty' cs' hn => ?_⟩
    by_cases hj : j = id
    · subst hj; simp [AS.set] at hn; subst hn; cases hblk
    · exact this.2.2 ty' cs' (by simpa [AS.set, hj] using hn)
  · intro j ty' cs' ej
    have hj : j ≠ id := by intro e'; subst e'; simp [AS.set] at ej; subst ej; cases hblk
    simp [AS.set, hj] at ej
    obtain ⟨c, vs', k1, k2, k3⟩ := h.cells j ty' cs' ej
    have hne : c ≠ b := fun e' => hj (h.inj1 j id b (e' ▸ k1) hb)
    exact ⟨c, vs', k1, by rw [other c hne]; exact k2, k3⟩
  · intro j es' ej
    have hj : j ≠ id := by intro e'; subst e'; simp [AS.set] at ej; subst ej; cases hblk
    simp [AS.set, hj] at ej
    obtain ⟨c, ms2, cl, k1, k2, k3⟩ := h.maps j es' ej
    have hne : c ≠ b := fun e' => hj (h.inj1 j id b (e' ▸ k1) hb)
    exact ⟨c, ms2, cl, k1, by rw [other c hne]; exact k2, k3⟩
  · intro j s p ej
    by_cases hj : j = id
    · subst hj
      simp [AS.set] at ej
      subst ej
      exact ⟨b, hb, hok⟩
    · simp [AS.set, hj] at ej
      obtain ⟨c, k1, k2⟩ := h.iters j s p ej
      have hne : c ≠ b := fun e' => hj (h.inj1 j id b (e' ▸ k1) hb)
      exact ⟨c, k1, k2.keep (fun _ _ h => h) (fun o ho => by rw [other c hne]; exact ho) (fun m ms cl hm => by rw [other m (fun e => by subst e; rw [hw] at hm; exact hm0 _ _ (Option.some.inj hm))]; exact hm)⟩
  · intro j n ej
    have hj : j ≠ id := by intro e'; subst e'; simp [AS.set] at ej; subst ej; cases hblk
    simp [AS.set, hj] at ej
    exact h.tok j n ej
  · intro t r et
    obtain ⟨k1, k2, k3⟩ := h.own t r et
    refine ⟨k1, k2, fun c o ea k hk1 hk2 => ?_⟩
    obtain ⟨m1, m2, m3, m4, m5, m6, m7⟩ := k3 c o ea k hk1 hk2
    have hne : c ≠ b := fun e' => m4 id (e' ▸ hb)
    refine ⟨?_, ?_, m3, m4, m5, by simpa using m6, m7⟩
    · rw [World.cell?_of_block (w := w) (other c hne)]; exact m1
    · rw [World.frozen?_of_block (w := w) (other c hne)]; exact m2

def aRange (P : Program) (σ : AS) (t : TypeId) (x : AV) (K : AV → AS → Prop) : Prop :=
  match x with
  | .sc (.string b) => P.underlying t = some .string ∧ ∀ id, σ id = none → K (.ptr id 0) (σ.set id (.siter b 0))
  | .mp mid => (match P.underlying t, σ mid with
    | some (.map _ _), some (.map es) => ∀ id, σ id = none → K (.ptr id 0) (σ.set id (.miter mid es.length []))
    | _, _ => False)
  | _ => False

/-- The next rune. -/
def nextS (id : Nat) (b : ByteArray) (pos : Nat) (σ : AS) (K : AV → AS → Prop) : Prop :=
  if pos < b.size then K (.tup [.sc (.bool true), .sc (.int .i64 pos), .sc (.int .i32 (Utf8.decode b pos).1)]) (σ.set id (.siter b (pos + (Utf8.decode b pos).2))) else K (.tup [.sc (.bool false)]) σ
/-- The next entry: any that was not yet. -/
def nextM (id mid n0 : Nat) (done : List Nat) (σ : AS) (K : AV → AS → Prop) : Prop :=
  match σ mid with
  | some (.map es) => es.length = n0 ∧ ((∀ k, k < n0 → k ∈ done) → K (.tup [.sc (.bool false)]) σ) ∧
      ∀ k, k < n0 → k ∉ done → K (.tup [.sc (.bool true), (es.getD k (.any, .any)).1, (es.getD k (.any, .any)).2]) (σ.set id (.miter mid n0 (k :: done)))
  | _ => False
def aNext (σ : AS) (x : AV) (str : Bool) (K : AV → AS → Prop) : Prop :=
  match x, str with
  | .ptr id off, false => off = 0 ∧ (match σ id with
    | some (.miter mid n0 done) => nextM id mid n0 done σ K
    | _ => False)
  | .ptr id off, true => off = 0 ∧ (match σ id with
    | some (.siter b pos) => nextS id b pos σ K
    | _ => False)
  | _, _ => False

theorem tup_of {vs : List Value} {as : List AV} (hl : vs.length = as.length) (h : ∀ i, i < as.length → Rep P G (as.getD i .any) (vs.getD i undef)) : Rep P G (.tup as) (.tuple vs.toArray) := .tup vs hl h

theorem aRange_out (hi : Inv P G σ w) {t : TypeId} {x : AV} {v : Value} (hx : Rep P G x v) (h : aRange P σ t x K) :
    Out P G K Pn (((do pure (Next.value (← Instr.range t v))) : Sem Next).run P w) := by
  unfold aRange at h
  split at h
  · rename_i b
    cases hx
    obtain ⟨G', g1, g2, g3⟩ := hi.allocIt (.stringIter b 0) (.siter b 0) rfl (heap_alloc_new w _)
    refine Out.value (v := .pointer (some ⟨w.heap.size, 0, none⟩)) ?_ g1 g3 (.ptr g2) (h.2 _ hi.fresh)
    simp [Instr.range, run_underlying h.1, run_newObj_alloc, Sem.run_bind, Result.andThen]
  · rename_i mid
    split at h
    · rename_i kt et es hu hσ
      obtain ⟨m, ms, clock, h1, h2, ⟨h3, h4⟩, h5⟩ := hi.maps mid es hσ
      cases hx with
      | mp hb =>
        rw [h1] at hb
        obtain rfl := Option.some.inj hb
        have hlt := lt_of_heap h2
        obtain ⟨G', g1, g2, g3⟩ := hi.allocIt (.mapIter (some m) clock #[] clock) (.miter mid es.length []) rfl
          ⟨m, clock, #[], clock, ms, clock, heap_alloc_new w _, (G.bind_le w.heap.size (hi.top _ (Nat.le_refl _)).1).inj _ _ h1, by rw [heap_alloc_lt w _ hlt]; exact h2,
            by omega, Nat.le_refl _, Nat.le_refl _, h4, fun k e hk => ⟨fun _ => h4.1 k e hk, fun _ => by have := (Array.getElem?_eq_some_iff.1 hk).1; omega⟩, fun k e hk _ => by simp, by simp, by simp, by omega, by simp⟩
        refine Out.value (v := .pointer (some ⟨w.heap.size, 0, none⟩)) ?_ g1 g3 (.ptr g2) (h _ hi.fresh)
        simp [Instr.range, run_underlying hu, run_newObj_alloc, Sem.run_bind, Result.andThen, MapKept.run_getObj_map h2]
    · exact h.elim
  · exact h.elim

theorem run_choose_map {n : Nat} (hn : 0 < n) : ∃ i w', (choose (.mapNext n)).run P w = .ok i w' ∧ i < n ∧ (w' = w ∨ w' = w.drew) := by
  by_cases h1 : n ≤ 1
  · exact ⟨0, w, by simp [choose, Sem.run, Question.forced, h1], hn, .inl rfl⟩
  · exact ⟨_, w.drew, by simp [choose, Sem.run, Question.forced, h1]; rfl, by simp [Question.cut]; exact Nat.mod_lt _ hn, .inr rfl⟩

theorem cand_old {ms : Array MapEntry} {seen : Array Nat} {since : Nat} (hall : ∀ e, e ∈ ms → e.born < since) :
    (ms.filter fun e => !seen.contains e.born).filter (fun e => decide (e.born < since)) = (ms.filter fun e => !seen.contains e.born) ∧
    (ms.filter fun e => !seen.contains e.born).filter (fun e => decide (e.born ≥ since)) = #[] := by
  constructor
  · rw [Array.filter_eq_self]
    intro e he
    have := hall e (Array.mem_filter.1 he).1
    simpa using this
  · rw [Array.filter_eq_empty_iff]
    intro e he
    have := hall e (Array.mem_filter.1 he).1
    simp; omega

theorem run_next_done {t : TypeId} {c m since last clock : Nat} {seen : Array Nat} {ms : Array MapEntry} (h2 : w.heap[c]? = some (.mapIter (some m) since seen last)) (h4 : w.heap[m]? = some (.map ms clock))
    (hguard : (!seen.isEmpty && !ms.isEmpty && ms.all fun e => decide (e.born ≥ last)) = false) (hall : ∀ e, e ∈ ms → e.born < since) (hL : (ms.filter fun e => !seen.contains e.born).isEmpty = true) :
    (Instr.next (.pointer (some ⟨c, 0, none⟩)) false t).run P w = .ok (.tuple #[.bool false]) w := by
  have hget : (getObj c).run P w = .ok (.mapIter (some m) since seen last) w := by simp [getObj, Sem.run, h2]
  have hgm : (getObj m).run P w = .ok (.map ms clock) w := MapKept.run_getObj_map h4
  obtain ⟨e1, e2⟩ := cand_old (seen := seen) hall
  rw [Array.isEmpty_iff] at hL
  have hf : (Question.mapNext 1).forced = true := rfl
  simp only [Instr.next, Sem.run_bind, hget, Result.andThen_ok, hgm]
  rw [hguard]
  simp only [e1, e2, hL]
  simp [hf, Sem.run_bind, Result.andThen]

theorem run_next_some {t : TypeId} {c m since last clock : Nat} {seen : Array Nat} {ms : Array MapEntry} (h2 : w.heap[c]? = some (.mapIter (some m) since seen last)) (h4 : w.heap[m]? = some (.map ms clock))
    (hguard : (!seen.isEmpty && !ms.isEmpty && ms.all fun e => decide (e.born ≥ last)) = false) (hall : ∀ e, e ∈ ms → e.born < since) (hL : (ms.filter fun e => !seen.contains e.born).isEmpty = false) :
    ∃ e w', (w' = w ∨ w' = w.drew) ∧ e ∈ (ms.filter fun e => !seen.contains e.born) ∧
      (Instr.next (.pointer (some ⟨c, 0, none⟩)) false t).run P w = .ok (.tuple #[.bool true, e.key, e.val]) { w' with heap := w'.heap.setIfInBounds c (.mapIter (some m) since (seen.push e.born) clock) } := by
  have hget : (getObj c).run P w = .ok (.mapIter (some m) since seen last) w := by simp [getObj, Sem.run, h2]
  have hgm : (getObj m).run P w = .ok (.map ms clock) w := MapKept.run_getObj_map h4
  obtain ⟨e1, e2⟩ := cand_old (seen := seen) hall
  generalize hl : (ms.filter fun e => !seen.contains e.born) = left at *
  have hpos : 0 < left.size := by
    rcases Nat.eq_zero_or_pos left.size with h | h
    · rw [Array.size_eq_zero_iff] at h; subst h; simp at hL
    · exact h
  obtain ⟨i, w', hch, hlt, hw'⟩ := run_choose_map (P := P) (w := w) hpos
  have hh : w'.heap = w.heap := by rcases hw' with rfl | rfl <;> rfl
  refine ⟨left[i], w', hw', Array.getElem_mem hlt, ?_⟩
  have hset : ∀ o, (setObj c o).run P w' = .ok () { w' with heap := w'.heap.setIfInBounds c o } := fun o => by simp [setObj, Sem.run, hh, h2]
  simp only [Instr.next, Sem.run_bind, hget, Result.andThen_ok, hgm]
  rw [hguard]
  simp only [hl, e1, e2, hL]
  have hch' : (if (Question.mapNext left.size).forced = true then Result.ok 0 w else Result.ok ((Question.mapNext left.size).cut (w.tape w.drawn (Question.mapNext left.size))) w.drew : Result Nat) = Result.ok i w' := by
    rw [← hch]; simp [choose, Sem.run]
  simp [Sem.run_bind, Result.andThen]
  rw [hch']
  simp [hlt, Sem.run_bind, Result.andThen, hset]

theorem aNext_out (hi : Inv P G σ w) {x : AV} {v : Value} {str : Bool} {t : TypeId} (hx : Rep P G x v) (h : aNext σ x str K) :
    Out P G K Pn (((do pure (Next.value (← Instr.next v str t))) : Sem Next).run P w) := by
  unfold aNext at h
  split at h
  · rename_i id off
    obtain ⟨rfl, h⟩ := h
    split at h
    · rename_i mid n0 done hσ
      obtain ⟨c, h1, m, since, seen, last, ms, clock, h2, h3, h4, h5, h6, h7, h8, h9, h10, h11, h12, h13, h14⟩ := hi.iters id _ rfl hσ
      cases hx with
      | ptr hb =>
        rw [h1] at hb
        obtain rfl := Option.some.inj hb
        unfold nextM at h
        split at h
        · rename_i es hσm
          obtain ⟨hn, k1, k2⟩ := h
          obtain ⟨m', ms', clock', q1, q2, ⟨q3, q4⟩, q5⟩ := hi.maps mid es hσm
          rw [h3] at q1
          obtain rfl := Option.some.inj q1
          rw [h4] at q2
          cases q2
          have hall : ∀ e, e ∈ ms → e.born < since := by
            intro e he
            obtain ⟨k, hk, rfl⟩ := Array.getElem_of_mem he
            have hg : ms[k]? = some ms[k] := Array.getElem?_eq_getElem hk
            exact (h9 k _ hg).1 (by omega)
          have hguard : (!seen.isEmpty && !ms.isEmpty && ms.all fun e => decide (e.born ≥ last)) = false := by
            cases hse : seen.isEmpty with
            | true => simp
            | false =>
              have hp := h12 hse
              have h0 : 0 < ms.size := by omega
              have hlt := hall ms[0] (Array.getElem_mem h0)
              rw [Bool.and_eq_false_iff]
              right
              rw [Bool.eq_false_iff]
              intro hc
              have := (Array.all_eq_true.1 hc) 0 h0
              simp at this
              omega
          by_cases hL : (ms.filter fun e => !seen.contains e.born).isEmpty = true
          · have hrun := run_next_done (P := P) (t := t) h2 h4 hguard hall hL
            refine Out.value hrun (.refl G) hi ?_ (k1 fun k hk => ?_)
            · refine .tup [.bool false] rfl fun i hi' => ?_
              match i, hi' with
              | 0, _ => exact .sc _
            · have hk' : k < ms.size := by omega
              have hg : ms[k]? = some ms[k] := Array.getElem?_eq_getElem hk'
              refine (h10 k _ hg hk).1 ?_
              rw [Array.isEmpty_iff] at hL
              have := Array.filter_eq_empty_iff.1 hL ms[k] (Array.getElem_mem hk')
              simpa using this
          · obtain ⟨e, w', hw', hmem, hrun⟩ := run_next_some (P := P) (t := t) h2 h4 hguard hall (by simpa using hL)
            rw [Array.mem_filter] at hmem
            obtain ⟨hme, hns⟩ := hmem
            obtain ⟨k, hk, rfl⟩ := Array.getElem_of_mem hme
            have hg : ms[k]? = some ms[k] := Array.getElem?_eq_getElem hk
            have hkn : k < n0 := by omega
            have hkd : k ∉ done := fun hd => by
              have := (h10 k _ hg hkn).2 hd
              rw [this] at hns; simp at hns
            have hh : w'.heap = w.heap := by rcases hw' with rfl | rfl <;> rfl
            have hi' : Inv P G σ w' := by
              rcases hw' with rfl | rfl
              · exact hi
              · exact hi.drew
            have hlt := lt_of_heap h2
            have hcm : m ≠ c := by rintro rfl; rw [h2] at h4; cases h4
            obtain ⟨me, r1, r2, r3⟩ := q5 k (by omega)
            rw [hg] at r1
            obtain rfl := Option.some.inj r1
            refine Out.value hrun (.refl G) (hi'.setIt h1 (by rw [hh]; exact h2) (by simp) (by simp) _ (.miter mid n0 (k :: done)) rfl ?_) ?_ (k2 k hkn hkd)
            · refine ⟨m, since, seen.push ms[k].born, clock, ms, clock, ?_, h3, ?_, h5, by omega, Nat.le_refl _, h8, h9, ?_, ?_, (fun _ => by omega), by omega, ?_⟩
              · show (w'.heap.setIfInBounds c _)[c]? = _
                rw [hh]; simp [hlt]
              · show (w'.heap.setIfInBounds c _)[m]? = _
                rw [hh, Array.getElem?_setIfInBounds_ne (fun e => hcm e.symm)]
                exact h4
              · intro k' e' hk' hkn'
                rw [Array.contains_iff_mem, Array.mem_push, List.mem_cons, ← Array.contains_iff_mem, h10 k' e' hk' hkn']
                constructor
                · rintro (h | h)
                  · exact .inr h
                  · exact .inl (h8.2 _ _ _ _ hk' hg h)
                · rintro (rfl | h)
                  · rw [hg] at hk'; cases hk'; exact .inr rfl
                  · exact .inl h
              · intro x hx
                rcases Array.mem_push.1 hx with hx | rfl
                · exact h11 x hx
                · exact hall _ hme
              · intro k' hk'
                simp at hk'
                subst hk'
                exact ⟨ms[k], hg, by simp⟩
            · refine .tup [.bool true, ms[k].key, ms[k].val] rfl fun i hi' => ?_
              match i, hi' with
              | 0, _ => exact .sc _
              | 1, _ => exact r2
              | 2, _ => exact r3
        · exact h.elim
    · exact h.elim
  · rename_i id off
    obtain ⟨rfl, h⟩ := h
    split at h
    · rename_i b pos hσ
      obtain ⟨c, h1, h2⟩ := hi.iters id _ rfl hσ
      have h2 : w.heap[c]? = some (.stringIter b pos) := h2
      cases hx with
      | ptr hb =>
        rw [h1] at hb
        obtain rfl := Option.some.inj hb
        unfold nextS at h
        have hget : (getObj c).run P w = .ok (.stringIter b pos) w := by simp [getObj, Sem.run, h2]
        by_cases hp : pos < b.size
        · rw [if_pos hp] at h
          have hset : ∀ o, (setObj c o).run P w = .ok () { w with heap := w.heap.setIfInBounds c o } := fun o => by simp [setObj, Sem.run, h2]
          have hlt := lt_of_heap h2
          refine Out.value (v := .tuple #[.bool true, .int .i64 pos, .int .i32 (Utf8.decode b pos).1]) (G' := G) ?_ (.refl G) (hi.setIt h1 h2 (by simp) (by simp) (.stringIter b (pos + (Utf8.decode b pos).2)) (.siter b (pos + (Utf8.decode b pos).2)) rfl (by show ({ w with heap := w.heap.setIfInBounds c (.stringIter b (pos + (Utf8.decode b pos).2)) } : World).heap[c]? = _; simp [hlt])) ?_ h
          · simp [Instr.next, Sem.run_bind, hget, Result.andThen, hp, hset, goInt]
          · refine .tup [.bool true, .int .i64 pos, .int .i32 (Utf8.decode b pos).1] rfl fun i hi' => ?_
            match i, hi' with
            | 0, _ => exact .sc _
            | 1, _ => exact .sc _
            | 2, _ => exact .sc _
        · rw [if_neg hp] at h
          refine Out.value (v := .tuple #[.bool false]) (G' := G) ?_ (.refl G) hi ?_ h
          · simp [Instr.next, Sem.run_bind, hget, Result.andThen, hp]
          · refine .tup [.bool false] rfl fun i hi' => ?_
            match i, hi' with
            | 0, _ => exact .sc _
    · exact h.elim
  · exact h.elim

/-- The entry that an iterator over a map is at. -/
def aEntry (σ : AS) (x : AV) (K : AV → Prop) : Prop :=
  match x with
  | .ptr id off => off = 0 ∧ (match σ id with
    | some (.miter mid n0 (k :: _)) => (match σ mid with
      | some (.map es) => es.length = n0 ∧ K (.tup [(es.getD k (.any, .any)).1, (es.getD k (.any, .any)).2])
      | _ => False)
    | _ => False)
  | _ => False

theorem aEntry_out (hi : Inv P G σ w) {x : AV} {v : Value} (hx : Rep P G x v) (h : aEntry σ x fun v => K v σ) :
    Out P G K Pn (((do pure (Next.value (← Instr.entry v))) : Sem Next).run P w) := by
  unfold aEntry at h
  split at h
  · rename_i id off
    obtain ⟨rfl, h⟩ := h
    split at h
    · rename_i mid n0 k rest hσ
      obtain ⟨c, h1, m, since, seen, last, ms, clock, h2, h3, h4, h5, h6, h7, h8, h9, h10, h11, h12, h13, h14⟩ := hi.iters id _ rfl hσ
      cases hx with
      | ptr hb =>
        rw [h1] at hb
        obtain rfl := Option.some.inj hb
        split at h
        · rename_i es hσm
          obtain ⟨hn, hk⟩ := h
          obtain ⟨m', ms', clock', q1, q2, ⟨q3, q4⟩, q5⟩ := hi.maps mid es hσm
          rw [h3] at q1
          obtain rfl := Option.some.inj q1
          rw [h4] at q2
          cases q2
          obtain ⟨e, g1, g2⟩ := h14 k rfl
          have hlt : k < ms.size := (Array.getElem?_eq_some_iff.1 g1).1
          have hcl : clock = last := by omega
          obtain ⟨me, r1, r2, r3⟩ := q5 k (by omega)
          rw [g1] at r1
          obtain rfl := Option.some.inj r1
          have hget : (getObj c).run P w = .ok (.mapIter (some m) since seen last) w := by simp [getObj, Sem.run, h2]
          have hgm : (getObj m).run P w = .ok (.map ms clock) w := MapKept.run_getObj_map h4
          have hfind : ms.find? (fun x => x.born == e.born) = some e := by
            cases hf : ms.find? (fun x => x.born == e.born) with
            | none =>
              have := Array.find?_eq_none.1 hf e (Array.mem_of_getElem? g1)
              simp at this
            | some y =>
              have hp := Array.find?_some hf
              have hmem := Array.mem_of_find?_eq_some hf
              obtain ⟨j, hj, hje⟩ := Array.getElem_of_mem hmem
              have hg : ms[j]? = some y := by rw [Array.getElem?_eq_getElem hj, hje]
              have := h8.2 j k y e hg g1 (by simpa using hp)
              subst this
              rw [g1] at hg
              exact hg.symm ▸ rfl
          refine Out.value (v := .tuple #[e.key, e.val]) (G' := G) ?_ (.refl G) hi ?_ hk
          · simp [Instr.entry, Sem.run_bind, hget, Result.andThen, g2, hgm, hcl, hfind]
          · refine .tup [e.key, e.val] rfl fun i hi' => ?_
            match i, hi' with
            | 0, _ => exact r2
            | 1, _ => exact r3
        · exact h.elim
    · exact h.elim
  · exact h.elim

/-- The cells of values, one behind the other. -/
def flatZ (n : Nat) (v : AV) : List AV := (List.replicate n v).flatMap (·.cells)
theorem flatZ_get {v : AV} : ∀ (n : Nat), (flatZ n v).length = n * v.cells.length ∧ ∀ i j, i < n → j < v.cells.length → (flatZ n v).getD (i * v.cells.length + j) .any = v.cells.getD j .any := by
  intro n
  induction n with
  | zero => exact ⟨by simp [flatZ], fun i j hi _ => by omega⟩
  | succ n ih =>
    have e : flatZ (n + 1) v = v.cells ++ flatZ n v := by simp [flatZ, List.replicate_succ]
    rw [e]
    refine ⟨by rw [List.length_append, ih.1, Nat.add_mul]; omega, fun i j hi hj => ?_⟩
    cases i with
    | zero => rw [Nat.zero_mul, Nat.zero_add, getD_append_left _ _ _ hj]
    | succ i =>
      have : (i + 1) * v.cells.length + j = v.cells.length + (i * v.cells.length + j) := by rw [Nat.add_mul]; omega
      rw [this, getD_append_right _ _ _ (by omega)]
      have e2 : v.cells.length + (i * v.cells.length + j) - v.cells.length = i * v.cells.length + j := by omega
      rw [e2]
      exact ih.2 i j (by omega) hj

def aMakeSlice (P : Program) (σ : AS) (t : TypeId) (len cap : AV) (K : AV → AS → Prop) : Prop :=
  match sliceT P t, len, cap with
  | some e, .sc (.int _ n), .sc (.int _ c) => n = c ∧ 0 ≤ n ∧ n ≤ 1000000 ∧ P.cellsOf e ≠ 0 ∧ (P.bytesOf e : Int) * n ≤ 8000000 ∧ (zeroAV P e).laid = true ∧ (zeroAV P e).cells.length = P.cellsOf e ∧
      ∀ id, σ id = none → K (.msl id 0 n.toNat n.toNat) (σ.set id (.cells e (flatZ n.toNat (zeroAV P e))))
  | _, _, _ => False

theorem wrap_i64_small {n : Int} (h0 : 0 ≤ n) (h1 : n ≤ 1000000) : IntKind.i64.wrap n = n := by
  simp [IntKind.wrap, IntKind.bits, IntKind.signed]; split <;> omega
theorem zero_get {z : Value} {e : TypeId} {m : Nat} (hz : z.cells.size = m) (n : Nat) {zero : Array Value} (hzero : zero = if n * m = 0 then #[] else z.cells) (i j : Nat) (hi : i < n) (hj : j < m) :
    (((Array.range (n * m)).map (zero[· % zero.size]!))).getD (i * m + j) undef = z.cells.getD j undef := by
  have hlt : i * m + j < n * m := by
    have : (i + 1) * m ≤ n * m := Nat.mul_le_mul_right m hi
    rw [Nat.add_mul] at this; omega
  have h0 : ¬ n * m = 0 := by omega
  rw [if_neg h0] at hzero
  subst hzero
  have e1 : (i * m + j) % z.cells.size = j := by rw [hz, Nat.add_comm, Nat.add_mul_mod_self_right, Nat.mod_eq_of_lt hj]
  have hjs : j < z.cells.size := by omega
  have e2 : z.cells[j]! = z.cells[j] := by simp [getElem!_def, hjs]
  simp [Array.getD, hlt, e1, hjs, e2]

theorem aMakeSlice_out (hi : Inv P G σ w) {t : TypeId} {len cap : AV} {vl vc : Value} (hl : Rep P G len vl) (hc : Rep P G cap vc) (h : aMakeSlice P σ t len cap K) :
    Out P G K Pn (((do pure (Next.value (← Instr.makeSlice t vl vc))) : Sem Next).run P w) := by
  unfold aMakeSlice at h
  split at h
  · rename_i e k1 n k2 c he
    obtain ⟨rfl, h0, h1, h2, h3, h4, h5, h7⟩ := h
    cases hl
    cases hc
    have hu := sliceT_eq he
    obtain ⟨it, z, hit, hz, hzr⟩ := zeroAV_info h4
    have hsz : it.size = P.cellsOf e := by simp [Program.cellsOf, hit]
    have hby : it.bytes = P.bytesOf e := by simp [Program.bytesOf, hit]
    have hw : IntKind.i64.wrap n = n := wrap_i64_small h0 h1
    obtain ⟨z1, z2⟩ := laid_cells (rep_ofC (P := P) (G := G) z) (by rw [← hzr]; exact h4)
    rw [← hzr, h5] at z1 z2
    obtain ⟨N, rfl⟩ : ∃ N : Nat, n = N := ⟨n.toNat, by omega⟩
    simp only [Int.toNat_natCast] at h7
    have b1 : (N : Int) * P.bytesOf e ≤ 8000000 := by rw [Int.mul_comm]; exact h3
    have b2 : ((N * P.bytesOf e : Nat) : Int) ≤ 8000000 := by rw [Int.natCast_mul]; exact b1
    have hroom : ¬ (N * P.bytesOf e > roomBytes) := by unfold roomBytes; omega
    have hbig : ¬ ((2 : Int) ^ 48 < (P.bytesOf e : Int) * N) := by omega
    have hneg : ¬ ((N : Int) < 0) := by omega
    let zero : Array Value := if N * P.cellsOf e = 0 then #[] else z.cells
    let init : Array Value := (Array.range (N * P.cellsOf e)).map (zero[· % zero.size]!)
    have hrun : (Instr.makeSlice t (.int k1 N) (.int k2 N)).run P w = .ok (.slice (some ⟨w.heap.size, 0, none⟩) N N) (w.alloc (.cells init e)) := by
      simp only [Instr.makeSlice, Sem.run_bind, run_underlying hu, Result.andThen_ok, asInt, asIntOf, Sem.run_pure, run_typeInfo w hit, hw, hby]
      simp only [askRoom, Int.toNat_natCast, hroom, if_false, Sem.run_pure, Result.andThen_ok, sizeOf, Sem.run_bind, run_typeInfo w hit, hsz]
      have hbig' : ¬ ((281474976710656 : Int) < (P.bytesOf e : Int) * N) := by omega
      simp [hneg, hbig', Sem.run_bind, Result.andThen, run_typeInfo w hit, hsz]
      by_cases hn0 : N * P.cellsOf e = 0
      · simp [hn0, zero, init, newRow, run_newObj_alloc, Sem.run_bind, Result.andThen]
      · simp [hn0, zero, init, zeroValue, run_typeInfo w hit, hz, newRow, run_newObj_alloc, Sem.run_bind, Result.andThen]
    have hidx : ∀ k, k < N * P.cellsOf e → k / P.cellsOf e < N ∧ k % P.cellsOf e < P.cellsOf e ∧ (k / P.cellsOf e) * P.cellsOf e + k % P.cellsOf e = k := fun k hk =>
      ⟨Nat.div_lt_of_lt_mul (by rw [Nat.mul_comm]; exact hk), Nat.mod_lt _ (by omega), by rw [Nat.mul_comm]; exact Nat.div_add_mod k _⟩
    have f1 := (flatZ_get (v := zeroAV P e) N).1
    rw [h5] at f1
    obtain ⟨G', hle, hinj, hinv⟩ := hi.allocCells e init (flatZ N (zeroAV P e)) (by rw [f1]; simp [init]) (fun k hk => by
      rw [f1] at hk
      obtain ⟨k1, k2, k3⟩ := hidx k hk
      have h8 := (flatZ_get (v := zeroAV P e) N).2 _ _ k1 (by rw [h5]; exact k2)
      rw [h5, k3] at h8
      rw [h8]
      have h9 := zero_get (z := z) (e := e) z1 N (zero := zero) rfl _ _ k1 k2
      rw [k3] at h9
      rw [show init.getD k undef = _ from h9]
      exact z2 _ k2)
    exact Out.value hrun hle hinv (.msl hinj) (h7 _ hi.fresh)
  · exact h.elim

end Go.AW
