/- Every operation that is no call of a function. -/
import Derived.Test.YtddakledpipanaaVcStep
set_option linter.unusedVariables false
set_option linter.unusedSimpArgs false
namespace Go.Vc
section
variable {P : Program} {c : Ctx} {ι : Gh} {w : World} {a : Act} {o : Oper} {cfg : Cfg} {s : St}

theorem vsRep_of {M : Store} {f : Operand → Option V} (hf : ∀ x v, f x = some v → VRep c ι w M v (a.eval x)) : ∀ {l : List Operand} {vs : List V}, allSome (l.map f) = some vs → VsRep c ι w M vs (l.map a.eval)
  | [], vs, h => by cases h; rfl
  | x :: r, vs, h => by
    simp only [List.map_cons] at h
    cases hx : f x with
    | none => rw [hx] at h; cases h
    | some v =>
      rw [hx] at h
      simp only [allSome] at h
      cases hr : allSome (r.map f) with
      | none => rw [hr] at h; cases h
      | some ws => rw [hr] at h; cases h; exact ⟨_, _, rfl, hf x v hx, vsRep_of hf hr⟩

theorem capIds_rep {M : Store} (I : Inv c ι w M) : ∀ {vs : List V} {us : List Value} {ids : List Nat}, VsRep c ι w M vs us → allSome (vs.map (capId M)) = some ids →
    us = (ids.map fun id => Value.pointer (ι.base id)) ∧ ∀ id ∈ ids, ∃ ls, M.get id = some (.obj ls)
  | [], us, ids, hv, h => by cases h; exact ⟨hv, fun id hid => by cases hid⟩
  | v :: r, us, ids, ⟨u, us', h1, h2, h3⟩, h => by
    simp only [List.map_cons] at h
    cases hx : capId M v with
    | none => rw [hx] at h; cases h
    | some id =>
      rw [hx] at h
      simp only [allSome] at h
      cases hr : allSome (r.map (capId M)) with
      | none => rw [hr] at h; cases h
      | some js =>
        rw [hr] at h
        cases h
        obtain ⟨k1, k2⟩ := capIds_rep I h3 hr
        unfold capId at hx
        split at hx
        · rename_i j
          cases hm : M.get j with
          | none => rw [hm] at hx; cases hx
          | some en =>
            rw [hm] at hx
            cases en <;> simp only at hx <;> cases hx
            rename_i ls
            have hl := h2.leaf (l := .ptr id 0) rfl
            simp only [LRep, hm] at hl
            obtain ⟨b, e1, e2⟩ := hl
            refine ⟨?_, fun i hi => ?_⟩
            · rw [h1, k1, List.map_cons, e1]
              have : u = .pointer (some ⟨b, 0, none⟩) := by simpa using e2
              rw [this]
            · rcases List.mem_cons.1 hi with rfl | hi
              · exact ⟨ls, hm⟩
              · exact k2 i hi
        · cases hx

theorem VsRep.get {M : Store} : ∀ {l : List V} {us : List Value} {i : Nat} {v : V}, VsRep c ι w M l us → l[i]? = some v → ∃ u, us[i]? = some u ∧ VRep c ι w M v u
  | [], us, i, v, _, h => by simp at h
  | x :: r, us, 0, v, ⟨u, us', h1, h2, h3⟩, h => by simp at h; subst h; exact ⟨u, by simp [h1], h2⟩
  | x :: r, us, i + 1, v, ⟨u, us', h1, h2, h3⟩, h => by
    obtain ⟨y, k1, k2⟩ := h3.get (i := i) (by simpa using h)
    exact ⟨y, by rw [h1]; simpa using k1, k2⟩
def notCall : Op → Bool
  | .call ⟨.value _, _, _⟩ => false
  | _ => true

theorem evOp_sound (tab : TabOk P cfg) (I : Inv c ι w s.M) (F : FRep c ι w s a) (G : ConstOk P cfg c ι w) {cs : List (Nat × Bool)} (hk : Holds a cs) {nid : Nat} (hid : s.M.get nid = none) {ty : Nat}
    (hn : notCall o.op = true) {e : Eff} (h : evOp cfg s cs nid o.op ty = some e) (hp : ∀ p ∈ e.pre, p) : OpWp P c ι w s.M a o e.sv e.upd := by
  have hop : ∀ x v, opv cfg s cs x = some v → VRep c ι w s.M v (a.eval x) := fun x v hv => opv_rep F G hk hv
  have hl : ∀ {x l}, opl cfg s cs x = some l → LRep c ι w s.M l [a.eval x] := fun hx => opl_rep F G hk hx
  have hi : ∀ {x n}, opi cfg s cs x = some n → ∃ k, a.eval x = .int k n := fun hx => opi_rep F G hk hx
  have hid0 := hid
  generalize hoo : o.op = op at h hn
  cases op <;> simp only [evOp] at h <;> first | (cases h; done) | skip
  case move x =>
    cases hd : opd cfg s cs x with
    | none => rw [hd] at h; cases h
    | some v => rw [hd] at h; cases h; exact evMove_sound I (.inl hoo) (opd_rep F G hk hd)
  case assign x =>
    cases hd : opd cfg s cs x with
    | none => rw [hd] at h; cases h
    | some v => rw [hd] at h; cases h; exact evMove_sound I (.inr hoo) (opd_rep F G hk hd)
  case alloc T =>
    cases hz : zeroLs cfg T with
    | none => rw [hz] at h; cases h
    | some ls => rw [hz] at h; cases h; exact evAlloc_sound tab I hid0 hoo hz
  case box T x =>
    cases hd : opv cfg s cs x with
    | none => rw [hd] at h; cases h
    | some v => rw [hd] at h; cases h; exact evBox_sound I hid0 hoo (hop _ _ hd)
  case build T ps =>
    split at h
    · rename_i fs _ _ _ hT
      cases hkn : known cfg fs with
      | false => rw [hkn] at h; cases h
      | true =>
        rw [hkn] at h
        simp only [cond_true] at h
        cases hz : zeroLs cfg T with
        | none => rw [hz] at h; cases h
        | some ls =>
          rw [hz] at h
          simp only at h
          cases hb : evBuild cfg s cs T fs ps.toList ls with
          | none => rw [hb] at h; cases h
          | some r => rw [hb] at h; cases h; exact evBuildStruct_sound tab I hop hoo hT rfl hkn hz hb
    · rename_i n e' _ _ n' t hT
      split at h
      · rename_i t' he
        split at h
        · rename_i htt
          obtain ⟨rfl, rfl⟩ := htt
          cases hb : evElems cfg s cs n' t' ps.toList true (List.replicate n' t'.dft) [] with
          | none => rw [hb] at h; cases h
          | some r =>
            obtain ⟨fr, l, fz⟩ := r
            rw [hb] at h
            cases h
            exact evBuildArr_sound tab I hop hoo hT rfl rfl he rfl hb
        · cases h
      · cases h
    · cases h
  case buildSlice T n ps =>
    split at h
    · rename_i e' _ _ _ hT
      split at h
      · rename_i t he
        cases hb0 : (Nat.ble (n * t.sz) 16777216 && Nat.blt 0 t.sz) with
        | false => rw [hb0] at h; cases h
        | true =>
          rw [hb0] at h
          simp only [cond_true] at h
          simp only [Bool.and_eq_true] at hb0
          cases hb : evElems cfg s cs n t ps.toList true (List.replicate n t.dft) [] with
          | none => rw [hb] at h; cases h
          | some r =>
            obtain ⟨fr, l, fz⟩ := r
            rw [hb] at h
            cases h
            exact evBuildSlice_sound tab I hop hid hoo hT rfl he rfl ((ble_iff _ _).1 hb0.1) (by simpa using hb0.2) hb
      · cases h
    · cases h
  case load T x =>
    cases hx : opl cfg s cs x with
    | none => rw [hx] at h; cases h
    | some l =>
      rw [hx] at h
      simp only at h
      cases he : evLoad cfg s.M T l with
      | none => rw [he] at h; cases h
      | some r => obtain ⟨p, v⟩ := r; rw [he] at h; cases h; exact evLoad_sound tab I hoo (hl hx) he hp
  case store T x y =>
    cases hx : opl cfg s cs x with
    | none => rw [hx] at h; cases h
    | some l =>
      cases hy : opv cfg s cs y with
      | none => rw [hx, hy] at h; cases h
      | some v =>
        rw [hx, hy] at h
        simp only at h
        cases he : evStore cfg s.M T l v with
        | none => rw [he] at h; cases h
        | some r => obtain ⟨p, u⟩ := r; rw [he] at h; cases h; exact evStore_sound tab I hoo (hl hx) (hop _ _ hy) he hp
  case nilCheck x =>
    have al : ∀ {id}, aliveB s.M id = true → ∃ en, s.M.get id = some en ∧ en ≠ .dead := by
      intro id hal
      obtain ⟨h1, h2⟩ := aliveB_ok hal
      cases hm : s.M.get id with
      | none => exact absurd hm h2
      | some en => exact ⟨en, rfl, fun hd => h1 (by rw [hm, hd])⟩
    split at h
    · rename_i id off hx
      cases hal : aliveB s.M id with
      | false => rw [hal] at h; cases h
      | true =>
        rw [hal] at h; cases h
        have hr := hl hx
        refine evNil_sound I hoo hr (.inl ?_)
        obtain ⟨en, hm, hnd⟩ := al hal
        simp only [LRep, hm] at hr
        cases en <;> simp only at hr <;> first | exact absurd rfl hnd | (obtain ⟨_, _, hr⟩ := hr; exact ⟨_, by simpa using hr⟩)
    · rename_i id i' off hx
      cases hal : aliveB s.M id with
      | false => rw [hal] at h; cases h
      | true =>
        rw [hal] at h; cases h
        have hr := hl hx
        refine evNil_sound I hoo hr (.inl ?_)
        obtain ⟨en, hm, hnd⟩ := al hal
        simp only [LRep, hm] at hr
        cases en <;> simp only at hr <;> first | exact absurd rfl hnd | (obtain ⟨_, _, hr⟩ := hr; exact ⟨_, by simpa using hr⟩)
    · rename_i id ao i' off hx
      cases hal : aliveB s.M id with
      | false => rw [hal] at h; cases h
      | true =>
        rw [hal] at h; cases h
        have hr := hl hx
        refine evNil_sound I hoo hr (.inl ?_)
        obtain ⟨en, hm, hnd⟩ := al hal
        simp only [LRep, hm] at hr
        cases en <;> simp only at hr <;> first | exact absurd rfl hnd | skip
        rename_i ls
        cases hla : lat ls ao with
        | none => rw [hla] at hr; exact hr.elim
        | some q =>
          rw [hla] at hr
          cases q <;> simp only at hr
          obtain ⟨_, _, hr⟩ := hr; exact ⟨_, by simpa using hr⟩
    · rename_i fr t y hx
      cases h
      have hr := hl hx
      refine evNil_sound I hoo hr (.inl ?_)
      obtain ⟨ad, pcs, h1, _⟩ := hr
      exact ⟨ad, by simpa using h1⟩
    · rename_i f cp hx
      cases h
      have hr := hl hx
      refine evNil_sound I hoo hr (.inr ?_)
      obtain ⟨h1, _⟩ := hr
      exact ⟨_, _, _, by simpa using h1⟩
    · cases h
  case binOp op T x y T' =>
    split at h
    · rename_i l m hx hy
      cases he : evBin cfg T op l m with
      | none => rw [he] at h; cases h
      | some r => obtain ⟨p, r⟩ := r; rw [he] at h; cases h; exact evBin_sound tab I hoo (hl hx) (hl hy) he hp
    · cases h
  case unOp op T x =>
    cases hx : opl cfg s cs x with
    | none => rw [hx] at h; cases h
    | some l =>
      rw [hx] at h
      simp only at h
      cases he : evUn op l with
      | none => rw [he] at h; cases h
      | some r => rw [he] at h; cases h; exact evUn_sound I hoo (hl hx) he
  case convert S T x =>
    cases hx : opl cfg s cs x with
    | none => rw [hx] at h; cases h
    | some l =>
      rw [hx] at h
      exact evConvert_sound tab I hid0 hoo (hl hx) h hp
  case makeFunc fn first caps =>
    cases fn <;> simp only [evOp] at h <;> first | (cases h; done) | skip
    rename_i f
    cases hf : Nat.beq first.size 0 with
    | false => rw [hf] at h; cases h
    | true =>
      rw [hf] at h
      simp only [cond_true] at h
      cases hv : evArgs cfg s cs caps.toList with
      | none => rw [hv] at h; cases h
      | some vs =>
        rw [hv] at h
        simp only at h
        cases hids : allSome (vs.map (capId s.M)) with
        | none => rw [hids] at h; cases h
        | some ids =>
          rw [hids] at h
          cases h
          obtain ⟨k1, k2⟩ := capIds_rep I (vsRep_of hop hv) hids
          exact evFunc_sound I hoo (Nat.eq_of_beq_eq_true hf) k1 k2
  case makeSlice T n m =>
    split at h
    · rename_i e' _ _ _ x y hT hx hy
      split at h
      · rename_i d' sz by' t he
        cases h
        obtain ⟨k, hkx⟩ := hi hx
        obtain ⟨k', hky⟩ := hi hy
        have hp : (0 ≤ x ∧ x ≤ y) ∧ y * (by' : Int) ≤ 140737488355328 ∧ y ≤ 9223372036854775807 := ⟨⟨hp _ (by simp), hp _ (by simp)⟩, hp _ (by simp), hp _ (by simp)⟩
        exact evMake_sound tab I hid0 hoo hT rfl he rfl hkx hky hp.1.1 hp.1.2 hp.2.1 hp.2.2
      · cases h
    · cases h
  case slice T x lo hi' mx =>
    cases mx with
    | some _ => cases h
    | none =>
      simp only [evOp] at h
      split at h
      · rename_i l p q hx hp' hq
        cases he : evSlice cfg s.M T l p q with
        | none => rw [he] at h; cases h
        | some r => obtain ⟨ps, r⟩ := r; rw [he] at h; cases h; exact evSlice_sound tab I hoo (hl hx) (opis_rep F G hk hp') (opis_rep F G hk hq) he hp
      · cases h
  case fieldAddr T x f =>
    split at h
    · rename_i off ft l hf hx
      cases he : evField cfg s.M off ft l with
      | none => rw [he] at h; cases h
      | some r => rw [he] at h; cases h; exact evField_sound tab I hoo hf (hl hx) he
    · cases h
  case field T x f =>
    split at h
    · rename_i off ft v hf hx
      cases ht : cfg.ti ft with
      | none => rw [ht] at h; cases h
      | some ti =>
        rw [ht] at h
        simp only at h
        cases hag : v.agg with
        | false => rw [hag] at h; cases h
        | true =>
          rw [hag] at h
          simp only [cond_true] at h
          cases hr : lget v.ls off ti.size with
          | none => rw [hr] at h; cases h
          | some r => rw [hr] at h; cases h; exact evPart_sound tab I hoo hf (hop _ _ hx) hag ht hr
    · cases h
  case indexAddr T x y =>
    split at h
    · rename_i l n hx hy
      obtain ⟨k, hky⟩ := hi hy
      cases he : evIndexAddr cfg s.M T l n with
      | none => rw [he] at h; cases h
      | some r => obtain ⟨p, r⟩ := r; rw [he] at h; cases h; exact evIndexAddr_sound tab I hoo (hl hx) hky he hp
    · cases h
  case index T x y =>
    split at h
    · rename_i v n hx hy
      obtain ⟨k, hky⟩ := hi hy
      exact evIndex_sound tab I hoo (hop _ _ hx) hky h hp
    · cases h
  case extract x i =>
    split at h
    · rename_i l hx
      cases he : l[i]? with
      | none => rw [he] at h; cases h
      | some v =>
        rw [he] at h
        cases h
        obtain ⟨us, h1, h2⟩ := (opd_rep F G hk hx : SVRep c ι w s.M (.tup l) _)
        obtain ⟨u, k1, k2⟩ := h2.get he
        refine OpWp.pure I (v := u) ?_ k2
        simp [execOp, hoo, Instr.extract, h1, k1]
    · cases h
  case call cl =>
    obtain ⟨ce, args, ts⟩ := cl
    cases ce <;> first | (cases hn; done) | (simp only [evOp] at h; cases h; done) | skip
    rename_i b
    cases b <;> simp only [evOp] at h <;> first | (cases h; done) | skip
    case append =>
      split at h
      · rename_i x y T U hx hy
        split at h
        · rename_i l m hl1 hl2
          exact evAppend_sound tab I hid0 hoo rfl hx hy (hl hl1) (hl hl2) h hp
        · cases h
      · cases h
    case len =>
      split at h
      · rename_i x T hx hT
        cases hxl : opl cfg s cs x with
        | none => rw [hxl] at h; cases h
        | some l =>
          rw [hxl] at h
          simp only at h
          cases he : evLen cfg s.M T l with
          | none => rw [he] at h; cases h
          | some n => rw [he] at h; cases h; exact evLen_sound tab I hoo rfl hx hT (hl hxl) he
      · cases h
    case max =>
      split at h
      · rename_i x y hx
        split at h
        · rename_i k a' k' b' h1 h2
          split at h
          · rename_i hkk
            subst hkk
            cases h
            exact evMax_sound I hoo rfl hx (hl h1) (hl h2)
          · cases h
        · cases h
      · cases h
    case min =>
      split at h
      · rename_i x y hx
        split at h
        · rename_i k a' k' b' h1 h2
          split at h
          · rename_i hkk
            subst hkk
            cases h
            exact evMin_sound I hoo rfl hx (hl h1) (hl h2)
          · cases h
        · cases h
      · cases h
end
end Go.Vc
