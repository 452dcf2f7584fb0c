/- A tool of this workplace, of no claim: the walk as a program; it tells the tactic texts that did it. -/
import Lean
import Derived.Test.YtienlpaehgdpaaaSlR
import Derived.Test.YtienlpaehgdpaaaSlW
open Lean Meta Elab Tactic

namespace GoWk

structure St where
  log : Array String := #[]
  cache : Std.HashMap String Syntax := {}
  specs : Std.HashMap Nat (Array (Name ⊕ FVarId)) := {}
  steps : Nat := 0
  why : Array String := #[]

abbrev M := StateRefT St TacticM

def natOf? (e : Expr) : Option Nat := match e.nat? with
  | some n => some n
  | none => match e.rawNatLit? with
    | some n => some n
    | none => match e with
      | .app (.const ``Nat.succ _) _ => none
      | _ => none

def dbg (s : String) : CoreM Unit := do
  if (← IO.getEnv "WKDBG").isSome then
    let h ← IO.FS.Handle.mk "/tmp/wk.log" .append
    h.putStrLn s
    h.flush
/-- a tactic text, run on one goal -/
def tryT (g : MVarId) (s : String) : M (Option (List MVarId)) := do
  let stx ← match (← get).cache[s]? with
    | some x => pure x
    | none =>
      match Parser.runParserCategory (← getEnv) `tactic s "<walk>" with
      | .ok x => modify fun st => { st with cache := st.cache.insert s x }; pure x
      | .error e => throwError "walk: parse error in {s}: {e}"
  let saved ← Tactic.saveState
  let hadErr := (← Core.getMessageLog).hasErrors
  dbg s!"  try {s}"
  try
    let gs ← (Tactic.run g (Term.withoutErrToSorry <| Tactic.withoutRecover <| evalTactic stx) : TermElabM _)
    if gs.contains g then throwError "no step"
    if (← Core.getMessageLog).hasErrors && !hadErr then throwError "error told"
    return some gs
  catch e =>
    if e.isInterrupt then throw (ε := Exception) e
    saved.restore
    return none

def PV : String := "(by first | assumption | omega)"
def pvs (s : String) : List String := if (s.splitOn PV).length > 1 then [s.replace PV "(by assumption)", s.replace PV "(by omega)"] else [s]
def firstU (g : MVarId) : List String → M (Option (String × List MVarId))
  | [] => return none
  | s :: r => do
    match ← tryT g s with
    | some gs => return some (s, gs)
    | none => firstU g r
def firstT (g : MVarId) (l : List String) : M (Option (String × List MVarId)) := firstU g (l.flatMap pvs)

/-- the frame, as a list -/
partial def envList (ρ : Expr) (acc : Array (Nat × Expr) := #[]) : MetaM (Array (Nat × Expr)) := do
  let go (e : Expr) : Option (Expr × Expr) := if e.isAppOfArity ``List.cons 3 then some (e.getArg! 1, e.getArg! 2) else none
  let e ← match go ρ with
    | some x => pure (some x)
    | none => do
      let ρ' ← whnfD ρ
      pure (go ρ')
  match e with
  | none => return acc
  | some (h, t) =>
    let h ← if h.isAppOfArity ``Prod.mk 4 then pure h else whnfD h
    if h.isAppOfArity ``Prod.mk 4 then
      match natOf? (← instantiateMVars (h.getArg! 2)) with
      | some n => envList t (acc.push (n, h.getArg! 3))
      | none => do
        let k ← whnfD (h.getArg! 2)
        match natOf? k with
        | some n => envList t (acc.push (n, h.getArg! 3))
        | none => return acc
    else return acc

def lk (ρ : Expr) (t : Nat) : MetaM (Option Expr) := do
  let l ← envList ρ
  return (l.find? (·.1 == t)).map (·.2)

/-- what an operand is -/
def evO (ρ : Expr) (o : Expr) : MetaM (Option Expr) := do
  let o ← whnfR o
  match o.getAppFn.constName? with
  | some ``Go.Operand.tmp => match natOf? o.appArg! with
    | some t => lk ρ t
    | none => return none
  | some ``Go.Operand.const => return some o.appArg!
  | some ``Go.Operand.func => return some o
  | _ => return none

/-- the same, a function as a value -/
def evV (ρ : Expr) (o : Expr) : MetaM (Option Expr) := do
  let o ← whnfR o
  if o.isAppOf ``Go.Operand.func then
    let e ← whnfD (mkApp2 (mkConst ``Go.SL.Env.ev) ρ o)
    if e.isAppOfArity ``Option.some 2 then return some e.appArg! else return none
  evO ρ o

def head (v : Expr) : MetaM (Name × Expr) := do
  let v ← instantiateMVars v
  let v' ← whnfR v
  match v'.getAppFn.constName? with
  | some n =>
    if n == ``Go.SL.elp || n == ``Go.SL.gd then return (n, v')
    if (← getEnv).isConstructor n then return (n, v')
    let v'' ← whnfD v'
    match v''.getAppFn.constName? with
    | some m => return (m, v'')
    | none => return (n, v')
  | none => return (`other, v')

def boolLit? (e : Expr) : MetaM (Option Bool) := do
  let e ← whnfR (← instantiateMVars e)
  if e.isConstOf ``Bool.true then return some true
  if e.isConstOf ``Bool.false then return some false
  return none

/-- does whnf decide it? -/
def boolDec? (e : Expr) : MetaM (Option Bool) := do
  match ← boolLit? e with
  | some b => return some b
  | none =>
    let e ← instantiateMVars e
    if e.hasFVar || e.hasExprMVar then
      -- a projection out of something that reduces
      let e' ← withReducible (whnf e)
      if e'.isConstOf ``Bool.true then return some true
      if e'.isConstOf ``Bool.false then return some false
      if e.isAppOf ``Decidable.decide || e.isAppOf ``and || e.isAppOf ``or || e.isAppOf ``not then return none
      let e' ← whnfD e
      if e'.isConstOf ``Bool.true then return some true
      if e'.isConstOf ``Bool.false then return some false
      return none
    let e' ← whnfD e
    if e'.isConstOf ``Bool.true then return some true
    if e'.isConstOf ``Bool.false then return some false
    return none

partial def isArith (p : Expr) : MetaM Bool := do
  let p ← whnfR (← instantiateMVars p)
  match p.getAppFnArgs with
  | (``Eq, #[t, _, _]) => return t.isConstOf ``Int || t.isConstOf ``Nat
  | (``Ne, #[t, _, _]) => return t.isConstOf ``Int || t.isConstOf ``Nat
  | (``LT.lt, #[t, _, _, _]) => return t.isConstOf ``Int || t.isConstOf ``Nat
  | (``LE.le, #[t, _, _, _]) => return t.isConstOf ``Int || t.isConstOf ``Nat
  | (``GT.gt, #[t, _, _, _]) => return t.isConstOf ``Int || t.isConstOf ``Nat
  | (``GE.ge, #[t, _, _, _]) => return t.isConstOf ``Int || t.isConstOf ``Nat
  | (``Not, #[q]) => isArith q
  | (``And, #[a, b]) => return (← isArith a) || (← isArith b)
  | (``Or, #[a, b]) => return (← isArith a) && (← isArith b)
  | _ => return false

def OM (s : String := "") : List String := ["(by omega)", "(by (try simp only [List.length_nil, List.length_cons, List.length_append, List.length_take, List.length_drop, List.length_set]); omega)"]

def freshH : MetaM String := do
  let lctx ← getLCtx
  let used := lctx.foldl (init := (∅ : Std.HashSet String)) fun s d => s.insert d.userName.toString
  let mut i := 1
  while used.contains s!"h{i}" do i := i + 1
  return s!"h{i}"

def freshN (base : String) : MetaM String := do
  let lctx ← getLCtx
  let used := lctx.foldl (init := (∅ : Std.HashSet String)) fun s d => s.insert d.userName.toString
  if !used.contains base then return base
  let mut i := 1
  while used.contains s!"{base}_{i}" do i := i + 1
  return s!"{base}_{i}"

/-- the parts, as a list -/
partial def listOf (e : Expr) (acc : Array Expr := #[]) : MetaM (Array Expr × Expr) := do
  let e ← instantiateMVars e
  if e.isAppOfArity ``List.cons 3 then listOf (e.getArg! 2) (acc.push (e.getArg! 1))
  else if e.isAppOfArity ``List.nil 1 then return (acc, e)
  else if e.isMVar || e.isFVar then return (acc, e)
  else
    let e' ← whnfR e
    if e'.isAppOfArity ``List.cons 3 then listOf (e'.getArg! 2) (acc.push (e'.getArg! 1)) else
    let e' ← whnfD e
    if e'.isAppOfArity ``List.cons 3 then listOf (e'.getArg! 2) (acc.push (e'.getArg! 1)) else return (acc, e')

def hasTxt : Nat → String
  | 0 => ".here"
  | n + 1 => s!"(.there {hasTxt n})"

/-- what is asked, out of what is known: the text of an 'Imp'; -/
partial def impTxt (cs : List Expr) (tail : Expr) (ds : Expr) : MetaM (Option String) := do
  let ds ← instantiateMVars ds
  if ds.isMVar then
    let lst ← cs.foldrM (init := tail) fun c r => mkAppM ``List.cons #[c, r]
    if ← isDefEq ds lst then return some "(Imp.refl _)" else return none
  else
    let ds ← if ds.isAppOfArity ``List.cons 3 || ds.isAppOfArity ``List.nil 1 || ds.isFVar then pure ds else whnfD ds
    if ds.isAppOfArity ``List.nil 1 then
      if cs.isEmpty && tail.isAppOfArity ``List.nil 1 then return some "(Imp.refl _)" else return some "(Imp.nil _)"
    if ds.isFVar then
      if ← isDefEq ds tail then
        return some (cs.foldl (init := "(Imp.refl _)") fun s _ => s!"(.dropT {s})")
      return none
    if ds.isAppOfArity ``List.cons 3 then
      let c ← instantiateMVars (ds.getArg! 1)
      let mut i := 0
      for d in cs do
        if d.getAppFn == c.getAppFn || !c.getAppFn.isConst || (← whnfR d).getAppFn == (← whnfR c).getAppFn then
          let s ← saveState
          let c' ← instantiateMVars c
          if ← (withReducible (isDefEq c' d) <||> isDefEq c' d) then
            match ← impTxt (cs.eraseIdx i) tail (ds.getArg! 2) with
            | some t => return some s!"(.take {hasTxt i} {t})"
            | none => restoreState s
          else restoreState s
        i := i + 1
      -- a predicate, put together
      if let some pn := c.getAppFn.constName? then
        let fn := pn ++ `fold
        if (← getEnv).contains fn then
          let s ← saveState
          let e ← mkConstWithFreshMVarLevels fn
          let (xs, bis, b) ← forallMetaTelescope (← inferType e)
          let b ← instantiateMVars b
          let b ← if b.isAppOf ``Go.SL.Imp then pure b else whnfR b
          if b.isAppOfArity ``Go.SL.Imp 2 then
            let dl := b.getArg! 1
            if dl.isAppOfArity ``List.cons 3 then
              if ← isDefEq (dl.getArg! 1) c then
                discard <| isDefEq (dl.getArg! 2) (ds.getArg! 2)
                let mut cur := cs
                let mut ats : Array String := #[]
                let mut ok := true
                for x in xs, bi in bis do
                  if !ok || !bi.isExplicit then continue
                  let ty ← instantiateMVars (← inferType x)
                  if ty.isAppOfArity ``Go.SL.Has 3 then
                    let w := ty.getArg! 1
                    let mut j := 0
                    let mut got := false
                    for d in cur do
                      if !got then
                        if d.getAppFn == w.getAppFn || (← whnfR d).getAppFn == (← whnfR w).getAppFn then
                          let s2 ← saveState
                          if ← (withReducible (isDefEq w d) <||> isDefEq w d) then
                            got := true
                            ats := ats.push (hasTxt j)
                            cur := cur.eraseIdx j
                          else restoreState s2
                        j := j + 1
                    if !got then ok := false
                  else if ty.isAppOfArity ``Go.SL.Imp 2 then
                    match ← impTxt cur tail (← instantiateMVars (ty.getArg! 1)) with
                    | some t => ats := ats.push t
                    | none => ok := false
                  else if ← isProp ty then ats := ats.push "(by first | assumption | omega | rfl | decide)"
                  else ats := ats.push "_"
                if ok then return some s!"({fn.componentsRev[1]!}.fold {" ".intercalate ats.toList})"
          restoreState s
      return none
    return none

/-- what is asked, at last of parts frozen before -/
def upTxt (cs : List Expr) (tail : Expr) (ds : Expr) : MetaM (Option String) := do
  let s ← saveState
  match ← impTxt cs tail ds with
  | some t => return some s!"(Up.of {t})"
  | none =>
    restoreState s
    -- freeze what is a slice of its own and asked for as shared
    let ds' ← listOf ds
    let mut i := 0
    for d in cs do
      if d.isAppOf ``Go.SL.SlT && (d.getArg! 1).isConstOf ``Bool.true then
        let sv := d.getArg! 4
        let mut want := false
        for w in ds'.1 do
          if w.isAppOf ``Go.SL.SlT && (w.getArg! 1).isConstOf ``Bool.false then want := true
          if (w.getAppFn.constName?.map fun n => n != ``Go.SL.SlT).getD false then want := true
        if want then
          let d' := mkAppN d.getAppFn (d.getAppArgs.set! 1 (mkConst ``Bool.false))
          let cs' := d' :: cs.eraseIdx i
          let s ← saveState
          match ← impTxt cs' tail ds with
          | some t => return some s!"(Up.frz {hasTxt i} (Up.of {t}))"
          | none => restoreState s
      i := i + 1
    return none

/-- contracts by function -/
def loadSpecs : M Unit := do
  let env ← getEnv
  let pre := env.mainModule
  let mut m : Std.HashMap Nat (Array (Name ⊕ FVarId)) := {}
  let add (m : Std.HashMap Nat (Array (Name ⊕ FVarId))) (t : Expr) (x : Name ⊕ FVarId) : Std.HashMap Nat (Array (Name ⊕ FVarId)) :=
    let b := t.getForallBody
    if b.isAppOfArity ``Go.SL.Meets 5 then
      match natOf? (b.getArg! 1) with
      | some f => m.insert f ((m.getD f #[]).push x)
      | none => m
    else m
  for d in ← getLCtx do
    if d.isImplementationDetail then continue
    m := add m (← instantiateMVars d.type) (.inr d.fvarId)
  let isP (n : Name) : Bool := match n with
    | .str _ s => (s.splitOn "_").length > 1
    | _ => false
  let pref := `Go.Proofs
  let f := fun (m : Std.HashMap Nat (Array (Name ⊕ FVarId))) (n : Name) (c : ConstantInfo) => if pref.isPrefixOf n && isP n && c.isTheorem then add m c.type (.inl n) else m
  m := env.constants.map₂.foldl (init := m) f
  m := env.constants.map₁.fold (init := m) f
  modify fun s => { s with specs := m }

def note (s : String) : M Unit := modify fun st => { st with why := st.why.push s }

/-- an argument of a contract, written: '_', '⟨_, _⟩' .. -/
partial def mkTxt (ty : Expr) (depth : Nat) : MetaM String := do
  if depth == 0 then return "_"
  let ty ← whnfR ty
  match ty.getAppFn.constName? with
  | some n =>
    match getStructureInfo? (← getEnv) n with
    | some _ =>
      let ctor := getStructureCtor (← getEnv) n
      let (xs, _, _) ← forallMetaTelescope (← instantiateForall ctor.type ty.getAppArgs)
      let ts ← xs.mapM fun x => do mkTxt (← inferType x) (depth - 1)
      return "⟨" ++ ", ".intercalate ts.toList ++ "⟩"
    | none => return "_"
  | none => return "_"

/-- a new structure made of unknowns -/
partial def mkUnk (ty : Expr) (pr : Bool := false) : MetaM Expr := do
  let ty ← whnfR ty
  match ty.getAppFn.constName? with
  | some n =>
    if n == ``Nat || n == ``Int || n == ``List || n == ``Bool || (pr && n != ``Prod) then mkFreshExprMVar ty else
    match getStructureInfo? (← getEnv) n with
    | some _ =>
      let ctor := getStructureCtor (← getEnv) n
      let c := mkAppN (.const ctor.name ty.getAppFn.constLevels!) ty.getAppArgs
      let (xs, _, _) ← forallMetaTelescope (← inferType c)
      let ys ← xs.mapM fun x => do
        let y ← mkUnk (← inferType x) pr
        x.mvarId!.assign y
        pure x
      return mkAppN c ys
    | none => mkFreshExprMVar ty
  | none => mkFreshExprMVar ty

def unfTxt (ty : Expr) : MetaM String := do
  let rec go (e : Expr) (d : Nat) : MetaM String := do
    match d with
    | 0 => return "_"
    | d + 1 =>
    let ty ← whnfR (← inferType e)
    match ty.getAppFn.constName? with
    | some n =>
      if n == ``Nat || n == ``Int || n == ``List || n == ``Bool then return "_" else
      match getStructureInfo? (← getEnv) n with
      | some _ =>
        let e ← instantiateMVars e
        if e.isApp && (← getEnv).isConstructor (e.getAppFn.constName?.getD `x) then
          let np := ty.getAppNumArgs
          let ts ← (e.getAppArgs.extract np e.getAppArgs.size).mapM fun x => go x d
          return "⟨" ++ ", ".intercalate ts.toList ++ "⟩"
        else return "_"
      | none => return "_"
    | none => return "_"
  go ty 4

def solveTxt (ty : Expr) : M String := do
  let long := "(by first | assumption | omega | decide | exact rfl)"
  let ty ← instantiateMVars ty
  if ty.hasExprMVar then return long
  let s0 ← (Tactic.saveState : TacticM _)
  for s in ["assumption", "omega", "decide", "exact rfl"] do
    let mv ← mkFreshExprMVar ty
    let r ← tryT mv.mvarId! s
    s0.restore
    match r with
    | some [] => return s!"(by {s})"
    | _ => pure ()
  return long

def callTxts (ρ cs f args : Expr) (dst : Option Nat) (ag : Bool := false) : M (List String) := do
  let some fv ← evO ρ f | return []
  let fvw ← whnfD fv
  let nn ← (do
    if fvw.isAppOf ``Go.Operand.func then pure (natOf? fvw.appArg!)
    else if fvw.isAppOf ``Go.Value.func then do
      let fidw ← whnfD (fvw.getArg! 0)
      pure (natOf? (← instantiateMVars fidw.appArg!))
    else pure none : MetaM (Option Nat))
  let some n := nn | return []
  let ops ← listOf args
  let vs ← ops.1.mapM fun o => evV ρ o
  let some vs := vs.mapM id | return []
  let (cl, tail) ← listOf cs
  let cands := (← get).specs.getD n #[]
  if cands.isEmpty then note s!"no contract of function {n}"
  let mut out : Array String := #[]
  -- those that ask for more come first
  let score (c : Name ⊕ FVarId) : M Nat := do
    match c with
    | .inr _ => return 1000
    | .inl n => if (n.toString.splitOn "_P").length > 1 then return 0 else pure ()
    match c with
    | .inr _ => return 1000
    | .inl n =>
      let t := (← getConstInfo n).type
      let (xs, bis, _) ← forallMetaTelescope t
      let mut k := 1
      for x in xs, bi in bis do
        if bi.isExplicit then if ← isProp (← inferType x) then k := k + 1
      return k
  let sc ← cands.mapM fun c => do return (← score c, c)
  let cands := (sc.qsort fun a b => a.1 > b.1).map (·.2)
  for c in cands do
    let s ← (Tactic.saveState : TacticM _)
    let r ← (try
      let (e, nm) ← match c with
        | .inl n => do pure (← mkConstWithFreshMVarLevels n, (n.replacePrefix `Go.Proofs .anonymous).toString)
        | .inr v => do pure (.fvar v, (← v.getUserName).toString)
      dbg s!"  cand {nm}"
      let nm := match c with | .inl n => n.componentsRev.head!.toString | .inr _ => nm
      let (xs, bis, b) ← forallMetaTelescope (← instantiateMVars (← inferType e))
      let b ← instantiateMVars b
      if !b.isAppOfArity ``Go.SL.Meets 5 then pure none else
      let (pargs, _) ← listOf (b.getArg! 2)
      if pargs.size != vs.size then pure none else
      let mut ok := true
      for p in pargs, v in vs do
        unless (← withReducible (isDefEq p v) <||> isDefEq p v) do
          -- unknown structures, made of unknowns
          let p ← instantiateMVars p
          let ms := (p.collectMVars {}).result
          let mut did := false
          for m in ms do
            let ty ← m.getType
            let u ← mkUnk ty
            if !u.isMVar then m.assign u; did := true
          if did then
            unless ← isDefEq (← instantiateMVars p) v do ok := false
          else ok := false
        if !ok then break
      dbg s!"  args {ok}"
      if !ok then pure none else
      let imp ← upTxt cl.toList tail (b.getArg! 3)
      let it := match imp with
        | some t => t
        | none => ""
      if it == "" then note s!"contract {nm}: memory"; pure none else
      let mut ats : Array String := #[]
      for x in xs, bi in bis do
        if bi.isExplicit then
          let ty ← inferType x
          if ← isProp ty then ats := ats.push (← solveTxt ty)
          else
            let xv ← instantiateMVars x
            ats := ats.push (← unfTxt xv)
      let R := (b.getArg! 4)
      let rh := R.getAppFn.constName?
      let tm := if ats.isEmpty then nm else "(" ++ nm ++ " " ++ " ".intercalate ats.toList ++ ")"
      let d := match dst with | some d => s!"{d}" | none => "0"
      if rh == some ``Go.SL.Det then
        pure (some s!"refine JT.call{if dst.isSome then "D" else "D0"} rfl rfl {it} {tm} ?_")
      else if rh == some ``Go.SL.Some' then
        let α := R.getArg! 0
        let α ← whnfR α
        let nx ← if α.isAppOf ``Prod then do pure s!"⟨{← freshN s!"a{d}"}, {← freshN s!"c{d}"}⟩" else freshN s!"x{d}"
        let p := R.getArg! 1
        let nh ← match p with
          | .lam _ _ (.const ``True _) _ => pure "_"
          | _ => freshN s!"hx{d}"
        pure (some s!"refine JT.call{if dst.isSome then "S" else "S0"} rfl rfl {it} {tm} (fun {nx} {nh} => ?_)")
      else pure none
      catch e => do
        note s!"contract: {← e.toMessageData.toString}"
        pure none)
    s.restore
    match r with
    | some t => out := out.push t
    | none => pure ()
  return out.toList

def BD : String := "(by first | exact Bd.no | exact Bd.c rfl | exact Bd.si rfl (by omega))"
def LEN : String := "List.length_nil, List.length_cons, List.length_append, List.length_take, List.length_drop, List.length_set"
def OMs : String := s!"(by (try simp only [{LEN}]); omega)"
def OM1 : String := "(by simp; omega)"
/-- each text with OMs also with shorter ones, ahead of it -/
def shorter (l : List String) : List String := l.flatMap fun s =>
  if (s.splitOn OMs).length > 1 then [s.replace OMs OM1, s] else [s]

/-- texts that may tell what an operation yields; 'gd' -/
def evTxts (k ρ cs : Expr) : M (List String) := do
  let k ← whnfR k
  let op := (k.getAppFn.constName?.getD `x)
  let clc := "exact Ev.calc rfl"
  if op == ``Go.SL.Kd.ld then
    let n ← whnfR (k.getArg! 0)
    let some a ← evO ρ (k.getArg! 1) | return []
    let (h, av) ← head a
    let one := n.isAppOf ``Option.none
    let cnt := if one then 1 else (natOf? n.appArg!).getD 1
    let us := "[" ++ ", ".intercalate (List.replicate cnt "_") ++ "]"
    if h == ``Go.SL.elp then
      if one then return [s!"exact Ev.LE0 rfl (by omega) rfl", s!"exact Ev.LE1 rfl (by omega) rfl (by decide)", s!"exact Ev.LE0 rfl {OM1} rfl", s!"exact Ev.LE1 rfl {OM1} rfl (by decide)", s!"exact Ev.LE0 rfl {OMs} rfl", s!"exact Ev.LE1 rfl {OMs} rfl (by decide)", "exact Ev.LE0 rfl (by decide) rfl", "exact Ev.LE1 rfl (by decide) rfl (by decide)"]
      else
       let off := av.appArg!
       let whole := off.isAppOfArity ``HMul.hMul 6 && natOf? off.appArg! == some cnt
       return List.filter (fun t => whole || !((t.splitOn "Ev.LE rfl").length > 1)) [s!"exact Ev.LE rfl (by omega)", s!"exact Ev.LEf rfl (by omega) (by decide)", s!"exact Ev.LEp (us := {us}) rfl (by omega) (by decide) rfl", s!"exact Ev.LE rfl {OM1}", s!"exact Ev.LE rfl {OMs}", s!"exact Ev.LEf rfl {OMs} (by decide)", s!"exact Ev.LEp (us := {us}) rfl {OMs} (by decide) rfl", "exact Ev.LE rfl (by decide)", s!"exact Ev.LEp (us := {us}) rfl (by decide) (by decide) rfl"]
    else
      if one then return ["exact Ev.L rfl rfl"]
      else return ["exact Ev.Lw rfl rfl", "exact Ev.Lf rfl (Nat.le_of_ble_eq_true rfl)", s!"exact Ev.Lp (us := {us}) rfl (Nat.le_of_ble_eq_true rfl) rfl"]
  if op == ``Go.SL.Kd.bini then
    let bop ← whnfR (k.getArg! 0)
    let b := bop.getAppFn.constName?.getD `x
    let some x ← evO ρ (k.getArg! 1) | return []
    let some y ← evO ρ (k.getArg! 2) | return []
    let lit (v : Expr) : MetaM Bool := do
      let (h, v) ← head v
      if h == ``Go.Value.int then
        let n ← instantiateMVars (v.getArg! 1)
        return n.int?.isSome
      return false
    let both := (← lit x) && (← lit y)
    let c := if b == ``Go.BinOp.lss then "lt" else if b == ``Go.BinOp.leq then "le" else if b == ``Go.BinOp.gtr then "gt" else if b == ``Go.BinOp.geq then "ge" else if b == ``Go.BinOp.eql then "eq" else if b == ``Go.BinOp.neq then "ne" else ""
    if c != "" then
      if both then return [s!"exact Ev.c{c}T rfl rfl (by decide)", s!"exact Ev.c{c}F rfl rfl (by decide)"]
      return [s!"exact Ev.c{c}T rfl rfl (by omega)", s!"exact Ev.c{c}F rfl rfl (by omega)", s!"exact Ev.c{c}T rfl rfl {OMs}", s!"exact Ev.c{c}F rfl rfl {OMs}"] ++ (if x.hasFVar || y.hasFVar then [] else [s!"exact Ev.c{c}T rfl rfl (by decide)", s!"exact Ev.c{c}F rfl rfl (by decide)"]) ++ ["exact Ev.int rfl rfl rfl"]
    let wr := ["(Wr.i64 (by omega) (by omega))", "(Wr.u64 (by omega) (by omega))", "(Wr.u8 (by omega) (by omega))", "(Wr.self _ _)"]
    if b == ``Go.BinOp.add then return ["exact Ev.addN rfl rfl (by omega)"] ++ wr.map fun w => s!"exact Ev.add rfl rfl {w}"
    if b == ``Go.BinOp.sub then return ["exact Ev.subN rfl rfl (by omega) (by omega)"] ++ wr.map fun w => s!"exact Ev.sub rfl rfl {w}"
    if b == ``Go.BinOp.mul then return wr.map fun w => s!"exact Ev.mul rfl rfl {w}"
    if b == ``Go.BinOp.shl then return ["exact Ev.shl rfl rfl (by omega) (by assumption)", "exact Ev.int rfl rfl rfl", "exact Ev.shl rfl rfl (by omega) (Wr.self _ _)"]
    if b == ``Go.BinOp.shr then return ["exact Ev.shr rfl rfl (by omega) (by assumption)", "exact Ev.int rfl rfl rfl", "exact Ev.shr rfl rfl (by omega) rfl"]
    return ["exact Ev.int rfl rfl rfl", "exact Ev.shift rfl rfl rfl rfl"]
  if op == ``Go.SL.Kd.ia then
    return ["exact Ev.iC rfl rfl (by omega)", s!"exact Ev.iC rfl rfl {OM1}", s!"exact Ev.iC rfl rfl {OMs}", "exact Ev.iI rfl rfl (by omega) (by omega)", s!"exact Ev.iI rfl rfl (by omega) {OMs}", "exact Ev.iC rfl rfl (by decide)"]
  if op == ``Go.SL.Kd.eqs then
    return ["exact Ev.eqTt rfl rfl (by assumption)", "exact Ev.eqTf rfl rfl (by assumption)", "exact Ev.neTt rfl rfl (by assumption)", "exact Ev.neTf rfl rfl (by assumption)", "exact Ev.eqT rfl rfl", "exact Ev.neT rfl rfl", "exact Ev.eqs rfl rfl (by repeat (first | exact EqC.nil | apply EqC.i | apply EqC.b | apply EqC.s))"]
  if op == ``Go.SL.Kd.agg then
    return ["exact Ev.aggQ rfl", "exact Ev.agg (by repeat (first | exact Cells.nil | apply Cells.z | (apply Cells.cl; rfl; rfl; rfl)))"]
  if op == ``Go.SL.Kd.cv then
    return ["exact Ev.cv rfl (Wr.i64 (by omega) (by omega))", "exact Ev.cv rfl (Wr.u64 (by omega) (by omega))", "exact Ev.cv rfl (Wr.u8 (by omega) (by omega))", "exact Ev.cv rfl (Wr.self _ _)"]
  if op == ``Go.SL.Kd.pick then return ["exact Ev.pickT rfl rfl", "exact Ev.pickF rfl rfl", "exact Ev.pickA rfl rfl rfl", "exact Ev.pickO rfl rfl rfl", "exact Ev.pickTp rfl (by first | assumption | omega) rfl", "exact Ev.pickFp rfl (by first | assumption | omega) rfl"]
  if op == ``Go.SL.Kd.mm then return ["exact Ev.mn rfl rfl", "exact Ev.mx rfl rfl"]
  if op == ``Go.SL.Kd.mkf then return ["exact Ev.mkf rfl"]
  if op == ``Go.SL.Kd.fa then
    let some off := natOf? (k.getArg! 0) | return []
    let some a ← evO ρ (k.getArg! 1) | return []
    let (h, av) ← head a
    if h == ``Go.SL.elp then
      let o ← whnfR (av.getArg! 1)
      let mut o' := off
      if o.isAppOfArity ``HAdd.hAdd 6 then
        if let some m := natOf? (o.getArg! 5) then o' := m + off
      return [s!"exact Ev.fe2 {o'} rfl rfl", "exact Ev.fe rfl", "exact Ev.faE rfl"]
    else
      let av ← whnfD av
      unless av.isAppOfArity ``Go.Value.pointer 1 do return [clc]
      let sm ← whnfD av.appArg!
      unless sm.isAppOfArity ``Option.some 2 do return [clc]
      let ad ← whnfD sm.appArg!
      unless ad.isAppOfArity ``Go.Addr.mk 3 do return [clc]
      let o ← whnfD (ad.getArg! 1)
      match natOf? o with
      | some m => return [s!"exact Ev.fa' {m + off} rfl rfl"]
      | none => return [clc]
  if op == ``Go.SL.Kd.fld then
    let cnt := (natOf? (k.getArg! 1)).getD 1
    let us := "[" ++ ", ".intercalate (List.replicate cnt "_") ++ "]"
    return [clc, "exact Ev.fldF rfl", s!"exact Ev.fldA (us := {us}) rfl rfl", "exact Ev.fldA rfl rfl"]
  if op == ``Go.SL.Kd.idx then return ["exact Ev.idx rfl rfl (by assumption)"]
  if op == ``Go.SL.Kd.lnm then return ["exact Ev.lM rfl"]
  return [clc]

/-- does the frame hold 'gd x _' of this x? -/
def opName (c : Expr) : MetaM String := do
  let c ← whnfR c
  if c.isAppOf ``Go.SL.COp.mk then
    let k ← whnfR (c.getArg! 1)
    let t := toString (← ppExpr c)
    return t
  return "?"

def opsOf (t : Expr) : MetaM (Option (Name × Expr)) := do
  let t ← whnfD t
  match t.getAppFn.constName? with
  | some n => return some (n, t)
  | none => return none

/-- the slots that a term names -/
partial def slotsOf (e : Expr) : List Nat :=
  if e.isAppOfArity `Go.SL.W.L 3 then (natOf? (e.getArg! 1)).toList ++ slotsOf (e.getArg! 2) else
  if e.isAppOfArity `Go.SL.W.M 4 || e.isAppOfArity `Go.SL.W.F 4 then (natOf? (e.getArg! 2)).toList ++ slotsOf (e.getArg! 3) else
  if e.isAppOfArity `Go.SL.W.X 4 then (natOf? (e.getArg! 1)).toList ++ slotsOf (e.getArg! 3) else
  if (e.isAppOfArity ``Go.Operand.tmp 1 || e.isAppOfArity `Go.SL.W.t 1) then (natOf? e.appArg!).toList else
  match e with
  | .app f a => slotsOf f ++ slotsOf a
  | .mdata _ e => slotsOf e
  | _ => []
/-- is an operand there only under a guard? -/
def opGd (k ρ : Expr) : MetaM Bool := do
  for n in slotsOf k do
    if let some v ← lk ρ n then
      if (← instantiateMVars v).isAppOf ``Go.SL.gd then return true
  return false

/-- does a region hold operations under guards that are not quiet? -/
partial def loudGuard (t : Expr) : MetaM Bool := do
  let t ← whnfD t
  match t.getAppFn.constName? with
  | some ``Go.SL.Tr.st =>
    let c ← whnfR (t.getArg! 0)
    let g ← whnfR (c.getArg! 2)
    if g.isAppOf ``Option.some then
      let k ← whnfR (c.getArg! 1)
      let kn := k.getAppFn.constName?.getD `x
      if kn == ``Go.SL.Kd.call || kn == ``Go.SL.Kd.sl || kn == ``Go.SL.Kd.ap || kn == ``Go.SL.Kd.lkp || kn == ``Go.SL.Kd.bsl || kn == ``Go.SL.Kd.new || kn == ``Go.SL.Kd.box then return true
    loudGuard (t.getArg! 1)
  | some ``Go.SL.Tr.ag => loudGuard (t.getArg! 1)
  | some ``Go.SL.Tr.both => loudGuard (t.getArg! 0)
  | _ => return false

structure Opt where
  halts : Array Nat := #[]
  extra : Array String := #[]
  gs : Bool := false
  vw : Bool := false
  bt : Bool := false

/-- the id of the block at a code's end -/
partial def endBlock (c : Expr) : MetaM (Option Nat) := do
  let c ← whnfD c
  match c.getAppFn.constName? with
  | some ``Go.SL.CC.block => return natOf? (c.getArg! 0)
  | some ``Go.SL.CC.seq => endBlock (c.getArg! 1)
  | _ => return none

def BPs : MetaM String := pure ""

def step (opt : Opt) (g : MVarId) : M (Option (String × List MVarId)) := g.withContext do
  let ty ← instantiateMVars (← g.getType)
  let ty := ty.cleanupAnnotations
  let ty := ty.headBeta
  for x in opt.extra do
    if let some gs ← tryT g x then return some (x, gs)
  match ty.getAppFn.constName? with
  | some ``Go.SL.J =>
    let cc ← whnfD (ty.getArg! 2)
    let ρ := ty.getArg! 3
    match cc.getAppFn.constName? with
    | some ``Go.SL.CC.seq =>
      if let some b ← endBlock (cc.getArg! 0) then
        if opt.halts.contains b then return none
      let a ← whnfD (cc.getArg! 0)
      if opt.bt && a.isAppOf ``Go.SL.CC.ops && (a.find? fun e => e.isConstOf ``Go.SL.Tr.both).isSome then return none
      if a.isAppOf ``Go.SL.CC.ops then firstT g ["refine J.so ?_"] else
      firstT g ["refine J.seq ?_"]
    | some ``Go.SL.CC.ops => firstT g ["refine J.ops ?_"]
    | some ``Go.SL.CC.skip => firstT g ["refine J.skip ?_"]
    | some ``Go.SL.CC.block => firstT g ["refine J.block ?_"]
    | some ``Go.SL.CC.exit => firstT g ["refine J.exit ?_"]
    | some ``Go.SL.CC.ret => firstT g ["refine J.ret ?_"]
    | some ``Go.SL.CC.cond =>
      let some v ← evO ρ (cc.getArg! 0) | note "cond: no value"; return none
      let (h, v) ← head v
      if h == ``Go.Value.bool then
        match ← boolDec? v.appArg! with
        | some true => firstT g ["refine J.condT rfl ?_"]
        | some false => firstT g ["refine J.condF rfl ?_"]
        | none =>
          let h ← freshH
          firstT g [s!"refine J.c rfl (fun {h} => ?_) (fun {h} => ?_)"]
      else note s!"cond: value {← ppExpr v}"; return none
    | _ => return none
  | some ``Go.SL.seqQ =>
    let e ← whnfR (ty.getArg! 2)
    match e.getAppFn.constName? with
    | some ``Go.Exit.normal => firstT g ["refine seqQ_n ?_"]
    | some ``Go.Exit.ret => firstT g ["refine seqQ_r ?_"]
    | some ``Go.Exit.exit => firstT g ["refine seqQ_x ?_"]
    | _ => return none
  | some ``Go.SL.blockQ =>
    let e ← whnfR (ty.getArg! 2)
    match e.getAppFn.constName? with
    | some ``Go.Exit.normal => firstT g ["refine blockQ_n ?_"]
    | some ``Go.Exit.ret => firstT g ["refine blockQ_r ?_"]
    | some ``Go.Exit.exit => firstT g ["refine blockQ_hit ?_", "refine blockQ_miss rfl ?_"]
    | _ => return none
  | some ``Go.SL.JT =>
    let some (tn, t) ← opsOf (ty.getArg! 1) | return none
    let ρ := ty.getArg! 2
    let cs := ty.getArg! 3
    match tn with
    | ``Go.SL.Tr.done => firstT g ["refine JT.done ?_"]
    | ``Go.SL.Tr.both => firstT g ["refine JT.both ?_ ?_"]
    | ``Go.SL.Tr.ag =>
      let c ← whnfR (t.getArg! 0)
      let gd ← whnfR (c.getArg! 2)
      if gd.isAppOf ``Option.none then do
        match ← firstT g ["refine JT.cA rfl rfl ?_"] with
        | some x => return some x
        | none =>
          let ts ← evTxts (← whnfR (c.getArg! 1)) ρ cs
          firstT g (ts.map fun x => s!"refine JT.yA rfl ({(x.drop 6)}) ?_")
      else do
        match ← firstT g ["refine JT.agF rfl rfl rfl ?_", "refine JT.agU rfl rfl ?_"] with
        | some x => return some x
        | none =>
          let ts ← evTxts (← whnfR (c.getArg! 1)) ρ cs
          let pv := "(by first | assumption | omega)"
          firstT g ((ts.map fun x => s!"refine JT.yB rfl rfl ({(x.drop 6)}) ?_") ++ [s!"refine JT.gaTs rfl {pv} rfl ?_", s!"refine JT.gaFs rfl {pv} rfl ?_"] ++ (ts.map fun x => s!"refine JT.gaT rfl {pv} rfl ({(x.drop 6)}) ?_") ++ (ts.map fun x => s!"refine JT.gaF rfl {pv} rfl ({(x.drop 6)}) ?_"))
    | ``Go.SL.Tr.st =>
      let c ← whnfR (t.getArg! 0)
      dbg s!"  op {← ppExpr c}"
      let k ← whnfR (c.getArg! 1)
      let kn := k.getAppFn.constName?.getD `x
      let gu ← whnfR (c.getArg! 2)
      let dst ← whnfR (c.getArg! 0)
      let d : Option Nat := if dst.isAppOf ``Option.some then natOf? dst.appArg! else none
      if gu.isAppOf ``Option.some then
        let pr ← whnfR gu.appArg!
        let some gi := natOf? (pr.getArg! 2) | return none
        let some b ← boolLit? (pr.getArg! 3) | return none
        let some gv ← lk ρ gi | note s!"guard {gi}: no value"; return none
        let gv ← instantiateMVars gv
        if gv.isConstOf ``Go.undef then return ← firstT g ["refine JT.skipU rfl ?_"]
        let (h, v) ← head gv
        if h == ``Go.Value.bool then
          match ← boolDec? v.appArg! with
          | some x => if x == b then firstT g ["refine JT.gk rfl ?_"] else firstT g ["refine JT.skip rfl rfl ?_"]
          | none =>
            let pv := "(by first | assumption | omega)"
            match ← firstT g (if b then [s!"refine JT.gT rfl {pv} ?_", s!"refine JT.gTs rfl {pv} ?_"] else [s!"refine JT.gF rfl {pv} ?_", s!"refine JT.gFs rfl {pv} ?_"]) with
            | some x => return some x
            | none => pure ()
            let quiet := kn == ``Go.SL.Kd.mv || kn == ``Go.SL.Kd.bini || kn == ``Go.SL.Kd.ld || kn == ``Go.SL.Kd.fa || kn == ``Go.SL.Kd.fld || kn == ``Go.SL.Kd.eqs || kn == ``Go.SL.Kd.cmp || kn == ``Go.SL.Kd.un || kn == ``Go.SL.Kd.ln || kn == ``Go.SL.Kd.lns || kn == ``Go.SL.Kd.ia || kn == ``Go.SL.Kd.pick || kn == ``Go.SL.Kd.nilc || kn == ``Go.SL.Kd.ext || kn == ``Go.SL.Kd.cv || kn == ``Go.SL.Kd.agg || kn == ``Go.SL.Kd.mm
            let hh ← freshH
            let loud ← loudGuard t
            if quiet && !opt.gs && !loud then
              let ts ← evTxts k ρ cs
              let rl := if b then "JT.yg" else "JT.yh"
              let pl := ts.map fun x => s!"refine {rl} rfl rfl (fun {hh} => {(x.drop 6)}) ?_"
              let sm := (ts.map fun x => s!"refine {rl} rfl rfl (fun {hh} => by rw [{hh}]; {x}) ?_") ++ ts.map fun x => s!"refine {rl} rfl rfl (fun {hh} => by simp only [{hh}, gd_true, gd_false, Bool.not_false, Bool.not_true, Bool.true_and, Bool.and_true]; {x}) ?_"
              let gdd ← opGd k ρ
              match ← firstT g (if gdd then sm ++ pl else pl ++ sm) with
              | some x => return some x
              | none => pure ()
            if kn == ``Go.SL.Kd.st then return none
            firstT g [if b then s!"refine JT.gp rfl (fun {hh} => ?_) (fun {hh} => ?_)" else s!"refine JT.gn rfl (fun {hh} => ?_) (fun {hh} => ?_)"]
        else if h == ``Go.SL.gd then
          let h1 ← freshH
          let ts ← evTxts k ρ cs
          let rl := if b then "JT.yg2" else "JT.yh2"
          match ← firstT g (ts.map fun x => s!"refine {rl} rfl rfl (fun {h1} {h1}' => {(x.drop 6)}) ?_") with
          | some x => return some x
          | none => pure ()
          match ← firstT g (ts.map fun x => s!"refine {rl} rfl rfl (fun {h1} {h1}' => by rw [{h1}, {h1}']; {x}) ?_") with
          | some x => return some x
          | none => pure ()
          match ← firstT g (ts.map fun x => s!"refine {rl} rfl rfl (fun {h1} {h1}' => by simp only [{h1}, {h1}', gd_true, gd_false, Bool.not_false, Bool.not_true, Bool.true_and, Bool.and_true]; {x}) ?_") with
          | some x => return some x
          | none => pure ()
          firstT g [s!"refine JT.gs2 rfl (fun {h1} {h1}' => ?_) (fun {h1} {h1}' => ?_) (fun {h1} => ?_)"]
        else if h == ``Go.Value.nilIface then firstT g ["refine JT.skipU rfl ?_"]
        else note s!"guard: value {← ppExpr v}"; return none
      else
      let ds := match d with | some d => s!"{d}" | none => "0"
      match kn with
      | ``Go.SL.Kd.call =>
        let ts ← callTxts ρ cs (k.getArg! 0) (k.getArg! 1) d
        firstT g ts
      | ``Go.SL.Kd.new => firstT g [s!"refine JT.new (fun {← freshN s!"b{ds}"} => ?_)"]
      | ``Go.SL.Kd.box =>
        let n ← freshN s!"b{ds}"
        firstT g [s!"refine JT.box rfl (fun {n} => ?_)", s!"refine JT.box1 rfl rfl (fun {n} => ?_)"]
      | ``Go.SL.Kd.st =>
        let some a ← evO ρ (k.getArg! 1) | return none
        let (h, _) ← head a
        let us := "[" ++ ", ".intercalate (List.replicate ((natOf? (k.getArg! 0)).getD 1) "_") ++ "]"
        if h == ``Go.SL.elp then
          firstT g ["refine JT.sE0 rfl rfl rfl rfl rfl (by omega) (by decide) rfl ?_", "refine JT.sE rfl rfl rfl rfl rfl (by omega) (by decide) rfl ?_"]
        else
          firstT g ["refine JT.w rfl rfl rfl rfl rfl ?_", s!"refine JT.s (us := {us}) rfl rfl rfl rfl rfl (Nat.le_of_ble_eq_true rfl) (by simp only [lput]; rfl) ?_", "refine JT.s rfl rfl rfl rfl rfl (Nat.le_of_ble_eq_true rfl) rfl ?_"]
      | ``Go.SL.Kd.sl =>
        let n ← freshN s!"a{ds}"
        let bdOf (e : Expr) : MetaM (List String) := do
          let e ← whnfR e
          if e.isAppOf ``Option.none then return [".no"] else return ["(.c rfl)", "(.si rfl (by omega))"]
        let b1 ← bdOf (k.getArg! 2)
        let b2 ← bdOf (k.getArg! 3)
        let b3 ← bdOf (k.getArg! 4)
        let bds := b1.flatMap fun x => b2.flatMap fun y => b3.map fun z => s!"{x} {y} {z}"
        let tls := bds.flatMap fun b => ["(by omega)", OM1, OMs].map fun o => s!"{b} (by decide) {o} {o} {o} {o} (fun {n} => ?_)"
        let tls := tls ++ [s!"{BD} {BD} {BD} (by decide) {OMs} {OMs} {OMs} {OMs} (fun {n} => ?_)"]
        firstT g <| tls.flatMap fun tl => (if opt.vw then [s!"refine JT.V rfl {tl}"] else []) ++ [s!"((refine JT.G rfl {tl}); (try simp only [List.take_length, List.drop_zero, Nat.sub_zero]))", s!"((refine JT.OG rfl {tl}); (try simp only [List.take_length, List.drop_zero, Nat.sub_zero]))"]
      | ``Go.SL.Kd.bsl =>
        let n ← freshN s!"a{ds}"
        let ln := (natOf? (k.getArg! 2)).getD 0
        let us := "[" ++ ", ".intercalate (List.replicate ln "_") ++ "]"
        let us2 := "[" ++ ", ".intercalate (List.replicate ln "⟨_, _⟩") ++ "]"
        let cl := "(by repeat (first | exact Cells.nil | apply Cells.z | (apply Cells.cl; rfl; rfl; rfl)))"
        firstT g <| [s!"refine JT.b0 (fun {n} => ?_)"] ++ (if ln ≥ 2 then [s!"refine JT.bT {us} {cl} rfl (by decide) (fun {n} => ?_)", s!"refine JT.bT {us2} {cl} rfl (by decide) (fun {n} => ?_)"] else []) ++ [ s!"refine JT.bsl1 (by repeat (first | exact Cells.nil | apply Cells.z | (apply Cells.cl; rfl; rfl; rfl))) (by simp only [List.length_cons, List.length_nil, Nat.reduceAdd]; rfl) (by decide) (by rfl) (fun {n} => ?_)"]
      | ``Go.SL.Kd.ap =>
        let n ← freshN s!"a{ds}"
        let c ← freshN s!"c{ds}"
        let hc ← freshN s!"hc{ds}"
        let cl := s!" <;> (try simp only [{LEN}] at {hc})"
        let cl := ""
        firstT g <| ["(by omega)", OM1, OMs].flatMap fun OMs => [s!"(refine JT.A1 rfl rfl (by rfl) rfl (by decide) {OMs} (fun {n} {c} {hc} => ?_)){cl}",
          s!"(refine JT.A2 rfl rfl (by rfl) rfl (by decide) {OMs} {OMs} (fun {n} {c} {hc} => ?_)){cl}",
          s!"(refine JT.A3 rfl rfl rfl (by decide) {OMs} (fun {n} {c} {hc} => ?_)){cl}",
          s!"(refine JT.A4 rfl rfl rfl (by decide) {OMs} {OMs} (fun {n} {c} {hc} => ?_)){cl}",
          s!"refine JT.A5 rfl rfl rfl (by decide) {OMs} {OMs} (fun {n} {c} => ?_)"]
      | ``Go.SL.Kd.lkp =>
        let ok ← boolLit? (k.getArg! 0)
        let h ← freshH
        let v ← freshN s!"v{ds}"
        let s := if ok == some true then "2" else "1"
        firstT g [s!"refine JT.lk{s}s rfl (by rfl) (by assumption) ?_", s!"refine JT.lk{s}n rfl (by rfl) (by assumption) ?_", s!"(refine JT.lk{s}s rfl ?_ (by assumption) ?_; (· rfl))", s!"(refine JT.lk{s}n rfl ?_ (by assumption) ?_; (· rfl))", s!"refine JT.lk{s} rfl (by rfl) (fun {v} {h} => ?_) (fun {h} => ?_)"]
      | ``Go.SL.Kd.mup => firstT g ["refine JT.mu rfl (by rfl) (by rfl) ?_"]
      | ``Go.SL.Kd.del => firstT g ["refine JT.dl rfl (by rfl) ?_"]
      | ``Go.SL.Kd.mpe | ``Go.SL.Kd.ens | ``Go.SL.Kd.rng | ``Go.SL.Kd.nxt | ``Go.SL.Kd.mkm | ``Go.SL.Kd.mks | ``Go.SL.Kd.cpy | ``Go.SL.Kd.clr | ``Go.SL.Kd.raw | ``Go.SL.Kd.bin => return none
      | _ =>
        let r ← if kn == ``Go.SL.Kd.fa then do
            let t2 ← whnfD (t.getArg! 1)
            if t2.isAppOfArity ``Go.SL.Tr.st 2 then
              let c2 ← whnfR (t2.getArg! 0)
              let k2 ← whnfR (c2.getArg! 1)
              let g2 ← whnfR (c2.getArg! 2)
              if k2.isAppOf ``Go.SL.Kd.ld && g2.isAppOf ``Option.none && d.isSome && (slotsOf (k2.getArg! 1)) == [d.getD 0] && !(slotsOf (t2.getArg! 1)).contains (d.getD 0) then
                let n ← whnfR (k2.getArg! 0)
                if n.isAppOf ``Option.none then firstT g ["refine zfl rfl rfl rfl ?_"]
                else
                  let us := "[" ++ ", ".intercalate (List.replicate ((natOf? n.appArg!).getD 1) "_") ++ "]"
                  firstT g ["refine zfz rfl rfl rfl ?_", s!"refine zfw {us} rfl rfl rfl rfl ?_"]
              else pure none
            else pure none
          else firstT g ["refine JT.c rfl ?_"]
        match r with
        | some x => return some x
        | none =>
          let ts ← evTxts k ρ cs
          firstT g (ts.map fun x => s!"refine JT.y rfl ({(x.drop 6)}) ?_")
    | _ => return none
  | some ``Exists =>
    -- a round's end
    let ι := ty.getArg! 0
    let s ← (Tactic.saveState : TacticM _)
    let one (pr : Bool) : M (Option (String × String × String × Nat)) := (try
      let x ← mkUnk ι pr
      let b := (ty.getArg! 1).beta #[x]
      let mut parts : Array Expr := #[]
      let mut c := b
      while c.isAppOfArity ``And 2 do
        parts := parts.push (c.getArg! 0)
        c := c.getArg! 1
      parts := parts.push c
      let some sb := parts.find? (·.isAppOf ``Go.SL.Env.subx) | throwError "no"
      let some up := parts.find? (·.isAppOf ``Go.SL.Up) | throwError "no"
      let l1 ← envList (← instantiateMVars (sb.getArg! 1))
      let l2 ← envList (sb.getArg! 2)
      let mut st := "subx_nil"
      let mut seen : Std.HashSet Nat := {}
      let mut tx : Array String := #[]
      for (d, v) in l1 do
        if seen.contains d then tx := tx.push "subx_dup"
        else
          seen := seen.insert d
          tx := tx.push "subx_cons"
          let some (_, u) := l2.find? (·.1 == d) | throwError "slot"
          unless ← (withReducible (isDefEq v u) <||> isDefEq v u) do throwError m!"slot {d}"
      for t in tx.toList.reverse do st := s!"({t} rfl {st})"
      let cs ← instantiateMVars (up.getArg! 0)
      let ds ← instantiateMVars ((up.getArg! 1).headBeta)
      let (cl, tail) ← listOf cs
      let some u ← upTxt cl.toList tail ds | throwError "memory"
      pure (some (st, u, ← unfTxt (← instantiateMVars x), parts.size))
      catch e => do
        note s!"round: {← e.toMessageData.toString}"
        pure none)
    let r ← one true
    let r ← (match r with | some y => pure (some y) | none => do s.restore; one false)
    s.restore
    match r with
    | none => return none
    | some (st, u, wt, n) =>
      if n == 4 then firstT g [s!"refine ⟨{wt}, ?_, (by omega), {st}, {u}⟩", s!"refine ⟨{wt}, ?_, (by simp only; omega), {st}, {u}⟩", s!"refine ⟨{wt}, ?_, ?_, {st}, {u}⟩"]
      else firstT g [s!"refine ⟨{wt}, ?_, {st}, {u}⟩"]
  | some ``Go.SL.retQ =>
    let ρ := ty.getArg! 3
    let cs := ty.getArg! 4
    let e ← whnfR (ty.getArg! 2)
    unless e.isAppOf ``Go.Exit.ret do return none
    let (rs, _) ← listOf (ty.getArg! 0)
    let mut rt := ".nil"
    for r in rs.toList.reverse do
      let r ← whnfD r
      if r.isAppOf ``Go.SL.RV.t then rt := s!"(.t rfl {rt})"
      else
        let n ← whnfD (r.getArg! 1)
        if n.isAppOf ``Option.none then rt := s!"(.v rfl {rt})" else rt := s!"(.w rfl rfl {rt})"
    let R ← instantiateMVars (ty.getArg! 1)
    let (cl, tail) ← listOf cs
    match R.getAppFn.constName? with
    | some ``Go.SL.Det =>
      let s ← (Tactic.saveState : TacticM _)
      let it ← upTxt cl.toList tail (R.getArg! 1)
      s.restore
      match it with
      | some u => firstT g [s!"refine retQD {rt} rfl {u}", s!"refine retQD {rt} ?_ {u}"]
      | none => return none
    | some ``Go.SL.Some' =>
      -- the witness, read off the value
      let s ← (Tactic.saveState : TacticM _)
      let it ← (try
        let α := R.getArg! 0
        let x ← mkUnk α true
        let mut vs : Array Expr := #[]
        for r in rs do
          let r ← whnfD r
          let some v ← lk ρ ((natOf? (r.getArg! 0)).getD 0) | throwError "x"
          if r.isAppOf ``Go.SL.RV.t then vs := vs.push v
          else
            -- what lies in the block
            let v ← whnfD (← instantiateMVars v)
            unless v.isAppOfArity ``Go.Value.pointer 1 do throwError "no pointer"
            let sm ← whnfD v.appArg!
            unless sm.isAppOfArity ``Option.some 2 do throwError "no pointer"
            let ad ← whnfD sm.appArg!
            unless ad.isAppOfArity ``Go.Addr.mk 3 do throwError "no address"
            let b ← whnfR (ad.getArg! 0)
            let mut got := false
            for c in cl do
              if !got && c.isAppOfArity ``Go.SL.pc 3 then
                if ← isDefEq (c.getArg! 0) b then
                  got := true
                  let n ← whnfD (r.getArg! 1)
                  if n.isAppOf ``Option.none then
                    let (l, _) ← listOf (c.getArg! 2)
                    vs := vs.push l[0]!
                  else vs := vs.push (mkApp (mkConst ``Go.Value.agg) (← mkAppM ``List.toArray #[c.getArg! 2]))
            if !got then throwError "cells"
        let V := (R.getArg! 2).beta #[x]
        let ok ← if vs.size == 1 then isDefEq vs[0]! V else do
          let V' ← whnfD V
          if V'.isAppOf ``Go.Value.tuple then
            let (l, _) ← listOf ((← whnfD V'.appArg!).getArg! 1)
            if l.size == vs.size then (l.zip vs).allM fun (a, b) => isDefEq b a else pure false
          else pure false
        if ok then
          let C ← instantiateMVars ((R.getArg! 3).beta #[← instantiateMVars x])
          upTxt cl.toList tail C
        else pure none
        catch _ => pure none)
      s.restore
      let wt := if (← whnfR (R.getArg! 0)).isAppOf ``Prod then "⟨_, _⟩" else "_"
      match it with
      | some u => firstT g [s!"refine retQS {wt} {rt} trivial rfl {u}", s!"refine retQS {wt} {rt} ?_ rfl {u}", s!"refine retQS {wt} {rt} ?_ ?_ {u}"]
      | none => return none
    | _ => return none
  | some ``Go.SL.Ev =>
    let k := ty.getArg! 1
    let ρ := ty.getArg! 2
    let cs := ty.getArg! 3
    -- guards that are known now
    let ts ← evTxts k ρ cs
    match ← firstT g ts with
    | some x => return some x
    | none =>
      -- under a guard
      let hs := (← getLCtx).foldl (init := #[]) fun a d => if d.userName.toString.startsWith "h" then a.push d.userName.toString else a
      let l := hs.toList.reverse.take 2
      let rw := ", ".intercalate l
      let pre := s!"(simp only [{rw}, gd_true, gd_false, Bool.not_false, Bool.not_true, Bool.true_and, Bool.and_true])"
      match ← tryT g pre with
      | some [g'] => return some (pre, [g'])
      | _ => return none
  | _ =>
    match ← firstT g ["omega", "assumption", "exact ⟨by omega, by assumption⟩"] with
    | some x => return some x
    | none => return none

/-- what a new fact makes impossible -/
def kill (g : MVarId) : M (Option String) := g.withContext do
  let ty ← instantiateMVars (← g.getType)
  unless ty.getAppFn.constName? == some ``Go.SL.J || ty.getAppFn.constName? == some ``Go.SL.JT do return none
  let some d := (← getLCtx).lastDecl | return none
  unless ← isProp d.type do return none
  if ← isArith d.type then
    if let some [] ← tryT g "(exfalso; omega)" then return some "(exfalso; omega)"
  if let some [] ← tryT g "contradiction" then return some "contradiction"
  let dt ← instantiateMVars d.type
  if dt.isAppOfArity ``Eq 3 && (dt.getArg! 0).isConstOf ``Bool then
    for e in ← getLCtx do
      if e.isImplementationDetail || e.fvarId == d.fvarId then continue
      let et ← instantiateMVars e.type
      if et.isAppOfArity ``Eq 3 && (et.getArg! 0).isConstOf ``Bool && (et.getArg! 2) != (dt.getArg! 2) && ((et.getArg! 2).isConstOf ``Bool.true || (et.getArg! 2).isConstOf ``Bool.false) then
        if (et.getArg! 1) == (dt.getArg! 1) then
          let t := s!"exact Bool.noConfusion ({d.userName}.symm.trans {e.userName})"
          if let some [] ← tryT g t then return some t
  return none

partial def walk (opt : Opt) (g : MVarId) (ind : String) : M (List MVarId) := do
  let st ← get
  if st.steps > 4000 then throwError "walk: too many steps"
  set { st with steps := st.steps + 1, why := #[] }
  let t0 ← IO.monoMsNow
  if (← IO.getEnv "WKDBG").isSome then
    let h ← IO.FS.Handle.mk "/tmp/wk.log" .append
    h.putStrLn s!"step {st.steps} {st.log.back?}"
    h.flush
  let r ← step opt g
  let t1 ← IO.monoMsNow
  let tm := if t1 - t0 > 150 then s!" -- {t1 - t0} ms" else ""
  match r with
  | none =>
    let y := " | ".intercalate (← get).why.toList
    modify fun s => { s with log := s.log.push ("rotate_left" ++ (if y == "" then "" else " -- WHY " ++ (y.replace "\n" " "))) }
    return [g]
  | some (t, gs) =>
    modify fun s => { s with log := s.log.push (t ++ tm) }
    if (t.splitOn "refine ⟨").length > 1 && gs.length > 0 then
      -- a round's end: its relation is left, where it is not plain
      pure ()
    let mut res := []
    let fork := gs.length > 1 || (t.splitOn "(fun h").length > 1
    for g' in gs do
      if ← g'.isAssigned then continue
      if fork then
        let t0 ← IO.monoMsNow
        let kl ← kill g'
        let t1 ← IO.monoMsNow
        if t1 - t0 > 150 then modify fun s => { s with log := s.log.push s!"-- kill {t1 - t0} ms" }
        if let some t := kl then
          modify fun s => { s with log := s.log.push t }
          continue
      res := res ++ (← walk opt g' ind)
    return res

def cut (s : String) (n : Nat) : String := if s.length > n then (s.take (n / 2)).toString ++ " .. " ++ (s.drop (s.length - n / 2)).toString else s

def squeeze (s : String) : String := " ".intercalate ((s.split (fun c => c == ' ' || c == '\n')).toList.map (·.toString) |>.filter (· != ""))

/-- a goal that is left, told briefly -/
def tell (g : MVarId) : TacticM String := g.withContext do
  let ty ← instantiateMVars (← g.getType)
  let ty := ty.headBeta
  let pp (e : Expr) (n : Nat) : MetaM String := do return cut (squeeze (toString (← ppExpr e))) n
  let mut out := ""
  let show1 (ρ cs : Expr) (only : Option (Array Nat) := none) : MetaM String := do
    let l ← envList ρ
    let l : Array (Nat × Expr) := match only with | some o => l.filter (fun (x : Nat × Expr) => o.contains x.1) | none => l
    let mut o := ""
    let mut seen : Std.HashSet Nat := {}
    for (d, v) in l do
      if seen.contains d then continue
      seen := seen.insert d
      o := o ++ s!"{d}={← pp v 160}; "
    let (c, tl) ← listOf cs
    let mut q := ""
    for x in c do q := q ++ s!"\n   | {← pp x 300}"
    return s!"\n   frame: {cut o 2500}\n   memory:{q} | {← pp tl 60}"
  match ty.getAppFn.constName? with
  | some ``Go.SL.J => out := s!"J {← pp (← whnfD (ty.getArg! 2)) 200}{← show1 (ty.getArg! 3) (ty.getArg! 4)}"
  | some ``Go.SL.JT =>
    let t ← whnfD (ty.getArg! 1)
    let c ← whnfR (t.getArg! 0)
    let ns := (slotsOf c).toArray
    let g ← whnfR (c.getArg! 2)
    let ns ← if g.isAppOf ``Option.some then do
        let p ← whnfR g.appArg!
        pure (ns.push ((natOf? (p.getArg! 2)).getD 0))
      else pure ns
    out := s!"JT {← pp c 300}{← show1 (ty.getArg! 2) (ty.getArg! 3) (some ns)}"
  | some ``Go.SL.retQ =>
    let (rs, _) ← listOf (ty.getArg! 0)
    let ns ← rs.mapM fun r => do return (natOf? ((← whnfD r).getArg! 0)).getD 0
    out := s!"RET {← pp (ty.getArg! 1) 600}{← show1 (ty.getArg! 3) (ty.getArg! 4) (some ns)}"
  | some ``Go.SL.Ev => out := s!"EV {← pp (ty.getArg! 1) 300}{← show1 (ty.getArg! 2) (ty.getArg! 3)}"
  | _ => out := s!"GOAL {← pp ty 1500}"
  let mut hs := ""
  for d in ← getLCtx do
    if d.isImplementationDetail then continue
    if d.userName.hasMacroScopes then continue
    if ← isProp d.type then hs := hs ++ s!"\n   {d.userName} : {← pp (← instantiateMVars d.type) 260}"
  return out ++ "\n   facts:" ++ hs

def run (opt : Opt) : TacticM Unit := do
  let g ← getMainGoal
  let rest := (← getGoals).tail!
  let (gs, st) ← (do g.withContext loadSpecs; walk opt g "" : M _).run {}
  setGoals (gs ++ rest)
  let pos := (← getFileMap).toPosition ((← getRef).getPos?.getD 0)
  let msg := s!"WALK@{pos.line} {gs.length} {st.steps}\n" ++ "\n".intercalate st.log.toList ++ "\nWALKEND"
  logInfo msg

elab "walk" hs:(ppSpace num)* : tactic => do
  run { halts := hs.map (·.getNat) }
elab "walkb" hs:(ppSpace num)* : tactic => do
  run { halts := hs.map (·.getNat), bt := true }
elab "walkv" hs:(ppSpace num)* : tactic => do
  run { halts := hs.map (·.getNat), vw := true }
elab "walks" hs:(ppSpace num)* : tactic => do
  run { halts := hs.map (·.getNat), gs := true }
elab "wup" : tactic => do
  let g ← getMainGoal
  let pos := (← getFileMap).toPosition ((← getRef).getPos?.getD 0)
  g.withContext do
    let ty ← instantiateMVars (← g.getType)
    let ty := ty.cleanupAnnotations.headBeta
    unless ty.isAppOfArity ``Go.SL.Up 2 do throwError "wup: {ty}"
    let (cl, tail) ← listOf (ty.getArg! 0)
    let s ← Tactic.saveState
    let u ← upTxt cl.toList tail (← instantiateMVars (ty.getArg! 1)).headBeta
    s.restore
    match u with
    | none => throwError "wup: no way: {ty}"
    | some u =>
      match Parser.runParserCategory (← getEnv) `tactic s!"exact {u}" "<wup>" with
      | .ok x => evalTactic x
      | .error e => throwError e
      logInfo s!"WUP@{pos.line} {pos.column} {u} WUPEND"
elab "tellgoals" : tactic => do
  let mut n : Nat := 0
  for g in ← getGoals do
    n := n + 1
    logInfo ("LEFT " ++ toString n ++ ": " ++ (← tell g))
end GoWk
