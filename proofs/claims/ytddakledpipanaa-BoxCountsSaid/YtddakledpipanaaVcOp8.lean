/- Conversions, parts, lengths. -/
import Derived.Test.YtddakledpipanaaVcOp7
import Derived.Laws.BytesString
import Derived.Lib.ConvBytes
set_option linter.unusedVariables false
set_option linter.unusedSimpArgs false
namespace Go.Vc
section
variable {P : Program} {c : Ctx} {ι : Gh} {w : World} {M : Store} {act : Act} {o : Oper} {cfg : Cfg}

theorem exec_convert {S T : Nat} {x : Operand} (ho : o.op = .convert S T x) {v : Value} {w' : World} (hr : (convert S T (act.eval x)).run P w = .ok v w') : (execOp act.eval o).run P w = .ok (.value v) w' := by
  simp [execOp, ho, hr, Result.andThen]
theorem TiOk.under {T : Nat} {ti : TI} (h : TiOk P T ti) : ∃ d, P.underlying T = some d ∧ TdOk d ti.d := by
  obtain ⟨d, i, hd, _, _, _, h3, _⟩ := h.ex
  exact ⟨d, hd, h3⟩
theorem TiOk.u8 (tab : TabOk P cfg) {e a b : Nat} {y : Option Ty} (h : cfg.ti e = some ⟨.int .u8, a, b, y⟩) : P.underlying e = some (.int .u8) := by
  obtain ⟨d, hd, h3⟩ := (tab e _ h).under
  rw [hd, show d = _ from h3]

theorem bytes_cells {S : Nat → Prop} : ∀ {n : Nat} {l : List Int} {xs : List Value}, PRep S w (.arr n (.int .u8)) l xs → xs = l.map fun x => Value.int .u8 x := by
  intro n l xs h
  obtain ⟨h1, ess, h2, h3, h4⟩ := h
  subst h3
  have : ∀ (l : List Int) (ess : List (List Value)), ess.length = l.length → (∀ (i : Nat) x ec, l[i]? = some x → ess[i]? = some ec → ec = [Value.int .u8 x]) → ess.flatten = l.map fun x => Value.int .u8 x := by
    intro l
    induction l with
    | nil => intro ess he _; rw [List.eq_nil_of_length_eq_zero he]; rfl
    | cons x r ih =>
      intro ess he hp
      cases ess with
      | nil => simp at he
      | cons ec es =>
        rw [List.flatten_cons, List.map_cons, hp 0 x ec (by simp) (by simp), ih es (by simpa using he) (fun i y yc hy hyc => hp (i + 1) y yc (by simpa using hy) (by simpa using hyc))]
        rfl
  exact this l ess (by omega) (fun i x ec hx hec => h4 i x ec hx hec)
theorem foldl_push (ns : List Int) : ∀ r : ByteArray, (ns.foldl (fun r n => r.push (UInt8.ofNat n.toNat)) r).data.toList = r.data.toList ++ ns.map fun n => UInt8.ofNat n.toNat := by
  induction ns with
  | nil => intro r; simp
  | cons n ns ih => intro r; rw [List.foldl_cons, ih]; simp [ByteArray.push]
theorem foldl_bs (ns : List Int) : ns.foldl (fun r n => r.push (UInt8.ofNat n.toNat)) ByteArray.empty = bs ns := by
  apply ByteArray.ext
  apply Array.ext'
  rw [foldl_push]
  simp [bs]

theorem bytesWorld_turn (e : Nat) (s : ByteArray) : Turn w (Lib.bytesWorld w e s) (fun _ => False) := by
  have hne : (Lib.bytesWorld w e s).os = w.os ∧ (Lib.bytesWorld w e s).tape = w.tape ∧ (Lib.bytesWorld w e s).output = w.output := by
    unfold Lib.bytesWorld World.freeze
    split <;> exact ⟨rfl, rfl, rfl⟩
  exact ⟨hne.1, hne.2.1, hne.2.2, by rw [Lib.bytesWorld_size]; omega, fun k hk _ => Lib.bytesWorld_at_old w e s k hk⟩

/-- A row is marked as a conversion's. -/
theorem mark_ok (I : Inv c ι w M) {id e' : Nat} {t : Ty} {fr : Bool} {l : List t.den} (hm : M.get id = some (.row e' t fr true l)) (hl : 0 < l.length) :
    ∃ g cur, ι.base id = some ⟨g, 0, none⟩ ∧ w.heap[g]? = some (.cells cur e' (0, 0)) ∧ Inv c ι (w.freeze ⟨g, cur.size, none⟩ 1) (M.set id (.row e' t fr false l)) ∧ Ext ι w M ι (w.freeze ⟨g, cur.size, none⟩ 1) (M.set id (.row e' t fr false l)) := by
  obtain ⟨xs, h1, h2, h3, h4⟩ := I.ents id _ hm
  rcases h4 with ⟨_, _, hn, _⟩ | ⟨g, cur, fz, hb, hlb, hg, hfz, hno, hnc, hcm, hcs, htk⟩
  · omega
  have hfz := hfz rfl
  subst hfz
  have hblk : ι.blk id = some g := by rw [Gh.blk, hb]; rfl
  have hoth : ∀ k, k ≠ g → (w.freeze ⟨g, cur.size, none⟩ 1).heap[k]? = w.heap[k]? := fun k hk => by
    unfold World.freeze
    rw [if_neg (by decide)]
    simp only [Array.getElem?_modify]
    rw [if_neg (fun h => hk h.symm)]
  have hat : (w.freeze ⟨g, cur.size, none⟩ 1).heap[g]? = some (.cells cur e' (cur.size, cur.size + 1)) := by
    unfold World.freeze
    rw [if_neg (by decide)]
    simp only [Array.getElem?_modify, if_true, hg, Option.map_some]
    simp
  have hsz : (w.freeze ⟨g, cur.size, none⟩ 1).heap.size = w.heap.size := by
    unfold World.freeze
    rw [if_neg (by decide)]
    simp
  have tt : Turn w (w.freeze ⟨g, cur.size, none⟩ 1) (fun k => ι.blk id = some k) := by
    refine ⟨?_, ?_, ?_, by rw [hsz]; exact Nat.le_refl _, fun k hk hn => hoth k (fun h => hn (by rw [h]; exact hblk))⟩ <;> (unfold World.freeze; rw [if_neg (by decide)])
  have hev : Ev (.row e' t fr true l) (.row e' t fr false l) := ⟨rfl, rfl⟩
  refine ⟨g, cur, hb, hg, Inv.change I hm rfl hev tt ⟨xs, PRep.mono (fun _ h => h) (fun b hb' => hoth b (fun h => (I.own id _ g hm rfl hblk).1 (h ▸ hb'.1))) _ _ _ h1, h2, h3, ?_⟩, Ext.change I hm rfl hev tt⟩
  exact .inr ⟨g, cur, (cur.size, cur.size + 1), hb, hlb, hat, fun h => (by cases h), fun j hj hh => (by have := hh.1; omega), hnc, hcm, hcs, htk⟩
theorem evConvert_sound (tab : TabOk P cfg) (I : Inv c ι w M) {nid S T : Nat} (hid : M.get nid = none) {x : Operand} (ho : o.op = .convert S T x) {l : Leaf} (hx : LRep c ι w M l [act.eval x])
    {ef : Eff} (h : evConvert cfg M nid S T l = some ef) (hp : ∀ p ∈ ef.pre, p) : OpWp P c ι w M act o ef.sv ef.upd := by
  unfold evConvert at h
  cases hS : cfg.ti S with
  | none => rw [hS] at h; cases h
  | some si =>
    cases hT : cfg.ti T with
    | none => rw [hS, hT] at h; cases h
    | some ti =>
      rw [hS, hT] at h
      obtain ⟨ds, hus, hds⟩ := (tab S _ hS).under
      obtain ⟨dt, hut, hdt⟩ := (tab T _ hT).under
      obtain ⟨td, sz, by', ty⟩ := ti
      simp only at h hdt
      have hev := h
      clear h
      have tostr : ∀ (l : Leaf), isStrL l = false → td = .str → LRep c ι w M l [act.eval x] → (match si.d with
          | .slice e => match cfg.ti e with
            | some ⟨.int .u8, _, _, _⟩ => match listOf M (.int .u8) l with
              | some (_, l) => some (⟨[], .one (.str l), []⟩ : Eff)
              | none => none
            | _ => none
          | _ => none) = some ef → OpWp P c ι w M act o ef.sv ef.upd := by
        intro l hstr htd hx h
        subst htd
        obtain ⟨sd, _, _, _⟩ := si
        cases sd <;> simp only at h <;> first | (cases h; done) | skip
        rename_i e
        split at h
        · rename_i a b y he
          cases hl : listOf M (.int .u8) l with
          | none => rw [hl] at h; cases h
          | some fm =>
            obtain ⟨fy, m⟩ := fm
            rw [hl] at h
            cases h
            obtain ⟨⟨b', cap, hv, hcap, hsrc⟩, hval⟩ := listOf_rep I hl hx hstr
            have hus : P.underlying S = some (.slice e) := by rw [hus, show ds = _ from hds]
            have hut : P.underlying T = some .string := by rw [hut, show dt = _ from hdt]
            refine OpWp.pure I (exec_convert ho (v := .string (bs m)) ?_) (SVRep.one ⟨rfl, hval.1, hval.2⟩)
            rw [hv]
            have hconv : (Conv.bytesToString (.slice b' m.length cap)).run P w = .ok (.string (bs m)) w := by
              by_cases h0 : 0 < m.length
              · obtain ⟨ad, news, rfl, h1, h2⟩ := hsrc h0
                have hn := bytes_cells h1
                subst hn
                have hlc := run_loadCells_list (P := P) w ad _ h2
                rw [List.length_map] at hlc
                rw [run_bytesToString w ad m.length cap m hlc, foldl_bs]
              · have hm0 : m = [] := List.eq_nil_of_length_eq_zero (by omega)
                subst hm0
                cases b' with
                | none => simp [Conv.bytesToString, bs]; rfl
                | some ad =>
                  have hlc : (loadCells ad 0).run P w = .ok ((([] : List Int).map (Value.int .u8)).toArray) w := by simp [loadCells, loadCellsFrom]
                  have := run_bytesToString w ad 0 cap [] hlc
                  rw [foldl_bs] at this
                  exact this
            simp [convert, run_underlying hus, run_underlying hut, run_underlying (TiOk.u8 tab he), hconv]
        · cases h
      have h := hev
      clear hev
      cases l <;> cases td <;> simp only at h <;> first
        | (cases h; done)
        | exact tostr _ rfl rfl hx h
        | skip
      case int.int k n k' =>
        cases h
        obtain ⟨hv, _⟩ := hx
        have hv : act.eval x = .int k n := by simpa using hv
        have hut : P.underlying T = some (.int k') := by rw [hut, show dt = _ from hdt]
        refine OpWp.pure I (exec_convert ho (v := .int k' (k'.wrap n)) ?_) (SVRep.one ⟨rfl, wrap_valid _ _⟩)
        rw [hv]
        simp [convert, run_underlying hus, run_underlying hut, Conv.intToInt]
      case str.str l =>
        cases h
        obtain ⟨hv, hval⟩ := hx
        have hv : act.eval x = .string (bs l) := by simpa using hv
        have hut : P.underlying T = some .string := by rw [hut, show dt = _ from hdt]
        refine OpWp.pure I (exec_convert ho (v := .string (bs l)) ?_) (SVRep.one ⟨rfl, hval⟩)
        rw [hv]
        simp [convert, run_underlying hus, run_underlying hut]
      case own.slice id e =>
        split at h
        · rename_i a b y he
          cases hm : M.get id with
          | none => rw [hm] at h; cases h
          | some en =>
            rw [hm] at h
            cases en <;> first | (simp only at h; cases h; done) | skip
            rename_i e' t fr ap l
            cases ap <;> simp only at h <;> first | (cases h; done) | skip
            cases hST : Nat.beq S T with
            | false => rw [hST] at h; cases h
            | true =>
              rw [hST] at h
              cases h
              have hSTe : S = T := Nat.eq_of_beq_eq_true hST
              subst hSTe
              have hl := hp (0 < l.length) (by simp)
              have hut : P.underlying S = some (.slice e) := by rw [hut, show dt = _ from hdt]
              have hue := TiOk.u8 tab he
              obtain ⟨g, cur, hb, hg, I', x'⟩ := mark_ok I hm hl
              have hxv : act.eval x = .slice (some ⟨g, 0, none⟩) l.length (ι.cap id) := by
                rw [← hb]; simpa [LRep, hm] using hx
              refine OpWp.of_run (exec_convert ho (v := act.eval x) (w' := w.freeze ⟨g, cur.size, none⟩ 1) ?_) I' x' (SVRep.one (own_rep (Store.get_set_same ..) (by rw [hxv, hb])))
              rw [hxv]
              have hsh : w.shape? g = some (e', cur.size) := by simp [World.shape?, hg]
              simp [convert, run_underlying hut, run_underlying hue, markStringish, hsh]
        · cases h
      case str.slice l e =>
        split at h
        · rename_i a b y he
          cases h
          obtain ⟨hv, hval⟩ := hx
          have hv : act.eval x = .string (bs l) := by simpa using hv
          have hut : P.underlying T = some (.slice e) := by rw [hut, show dt = _ from hdt]
          have hr := Lib.run_convert_string_bytes (P := P) w S T e (bs l) hus hut (TiOk.u8 tab he)
          rw [← hv] at hr
          have hsz : (bs l).size = l.length := bs_size l
          have hcc : (Lib.bytesCells w e (bs l)).size = grownCap w (bs l).size 0 e := by
            have := grownCap_ge w (bs l).size 0 e
            simp only [Lib.bytesCells, Array.size_append, Array.size_map, Array.size_replicate]
            have : (bs l).data.size = (bs l).size := rfl
            omega
          have hge := grownCap_ge w (bs l).size 0 e
          have hcm := grownCap_le_maxLen w (bs l).size 0 e (by rw [hsz]; exact hval.2)
          have htk : (Lib.bytesCells w e (bs l)).toList.take (l.length * 1) = l.map fun x => Value.int .u8 x := by
            have h1 : ((bs l).data.map fun b => Value.int .u8 b.toNat).toList = l.map fun x => Value.int .u8 x := by
              have := strCells_bs l hval.1
              simpa [Lib.strCells] using this
            rw [Lib.bytesCells, Array.toList_append, h1, Nat.mul_one, List.take_left' (by simp)]
          obtain ⟨ι', I', x', hb, hc⟩ := Inv.newRow I hid (e := e) (t := .int .u8) (fr := true) (l := l) (cur := Lib.bytesCells w e (bs l)) (cap := grownCap w (bs l).size 0 e) false _ (by simp)
            (fun j hj hh => by have := hh.1; omega) (by omega) hcm (by rw [hcc]; exact (Nat.mul_one _).symm) (byte_valid hval.1) (by rw [show Ty.sz (.int .u8) = 1 from rfl, htk]; exact PRep.bytes l) (bytesWorld_turn e (bs l)) (Lib.bytesWorld_at_new w e (bs l))
          refine OpWp.of_run (exec_convert ho hr) I' x' (SVRep.one (own_rep (Store.get_set_same ..) ?_))
          rw [hb, hc, hsz]
        · cases h

/-! ### parts -/
theorem run_part {T : Nat} {ti : TI} (ht : TiOk P T ti) {cs : List Value} {off : Nat} (h : off + ti.size ≤ cs.length) :
    ∃ v, (part T cs.toArray off).run P w = .ok v w ∧ (match ti.agg with | true => v = .agg ((cs.drop off).take ti.size).toArray | false => (cs.drop off).take ti.size = [v]) := by
  cases ha : ti.agg with
  | true =>
    refine ⟨.agg ((cs.drop off).take ti.size).toArray, ?_, rfl⟩
    have e : (cs.toArray.extract off (off + ti.size)) = ((cs.drop off).take ti.size).toArray := by
      simp
    simp [part, run_isAgg ht, ha, run_sizeOf_ti ht, e]
  | false =>
    obtain ⟨_, _, _, _, _, _, _, h6, _⟩ := ht.ex
    have h1 := h6 ha
    have hlt : off < cs.length := by omega
    refine ⟨cs[off], ?_, ?_⟩
    · simp [part, run_isAgg ht, ha, hlt]
    · show (cs.drop off).take ti.size = _
      rw [h1, List.take_one, List.head?_drop]
      simp [hlt]
theorem exec_field {T f : Nat} {x : Operand} (ho : o.op = .field T x f) {v : Value} (hr : (Instr.field T (act.eval x) f).run P w = .ok v w) : (execOp act.eval o).run P w = .ok (.value v) w := by
  simp [execOp, ho, hr, Result.andThen]
theorem exec_index {T : Nat} {x i : Operand} (ho : o.op = .index T x i) {v : Value} (hr : (Instr.index T (act.eval x) (act.eval i)).run P w = .ok v w) : (execOp act.eval o).run P w = .ok (.value v) w := by
  simp [execOp, ho, hr, Result.andThen]
theorem evPart_sound (tab : TabOk P cfg) (I : Inv c ι w M) {T f off ft : Nat} {x : Operand} (ho : o.op = .field T x f) (hf : fieldOf cfg T f = some (off, ft)) {v : V} (hx : VRep c ι w M v (act.eval x)) (hag : v.agg = true)
    {ti : TI} (ht : cfg.ti ft = some ti) {r : List Leaf} (hr : lget v.ls off ti.size = some r) : OpWp P c ι w M act o (.v ⟨ti.agg, r⟩) [] := by
  obtain ⟨fs, fd, hu, hfd, h1, h2⟩ := fieldOf_ok tab hf
  obtain ⟨cs, hls, hv⟩ := hx
  rw [hag] at hv
  have hv : act.eval x = .agg cs.toArray := hv
  obtain ⟨h3, h4⟩ := lget_rep hr hls
  obtain ⟨u, k1, k2⟩ := run_part (P := P) (w := w) (tab ft _ ht) h4
  refine OpWp.pure I (exec_field ho (v := u) ?_) (VRep.of_load (ti := ti) h3 k2)
  rw [hv]
  simp [Instr.field, run_underlying hu, hfd, h1, h2, asAgg, k1]
end
end Go.Vc
