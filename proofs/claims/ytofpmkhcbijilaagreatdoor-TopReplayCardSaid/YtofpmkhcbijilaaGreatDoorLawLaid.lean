/- A law's row out of its ideal walk, where the row lists variables that are laid. -/
import Derived.Test.YtofpmkhcbijilaaGreatDoorPlainX
import Derived.LaidLaws
import Derived.Handed
namespace Go.Proofs.YtofpmkhcbijilaaGreatDoorI
open Go
set_option linter.unusedSimpArgs false
set_option linter.unusedVariables false
theorem qbI {C:Checked}{f:FuncId}{fn:Func}{s:ChangeSpec}{CC:bu}{Pw:List (Bool×List Sh)}{rt:TypeId}{X:World→Array Value→Prop}(hX: ∀(w w':World) (args:Array Value),w.heap=w'.heap→X w args→X w' args)
 (own:ownKnob C.prog.godebug=none) (hinit:C.prog.inits.idxOf? f=none) (hfn:C.prog.funcs[f]? =some fn)
 (hlaid:laidOutB C.prog=true) (hbody:fn.body.isNone=false) (qic:Rs C.prog fn.params.toList=some Pw) (hread:fn.params.toList.all (fun t=>C.prog.readableRec t&&decide (t<C.prog.types.size))=true)
 (hres:fn.resultTypes = #[rt]) (hrt:C.prog.underlying rt=some .bool) (hvars:s.vars=[]) (hs: ∀(Hd:Type) (ds:List (DataW Hd)),ds.length=fn.params.toList.length→s.fn Hd ds={results:=[.lit (.bool true)],args:=ds})
 (hC:jh C.prog CC) (key: ∀H vs Hl,(∀b,¬ bL H b)→(∀b,H.next≤b→H.get b=none)→nP H Pw vs Hl→CC f vs H (fun r _=>r = .bool true))
 {os:Os} (started:os.Started) {Hd:Type} {enc:TypeId×Value→Hd}
 (witness: ∃(w:World) (tape:Tape) (i:Input),w.os=os∧(w.forCall tape i).Shaped C.prog∧i.vars=[]∧Input.okWide C.prog (w.forCall tape i) .any w.heap.size f i ∧
   ((s.pre enc C.prog fn [] false (w.forCall tape i).memory i.args∧X (w.forCall tape i).memory i.args)∧sizedMet enc C.prog fn (OpenSpec.ofChange s) false (w.forCall tape i).memory i.args)∧Assume.holds {} C.prog (lone (Frame.enter C.prog f i.args .normal) [] (w.forCall tape i))):
 ReturnsInHanded {} C os f .any (fun w args=>(s.pre enc C.prog fn [] false w args∧X w args)∧sizedMet enc C.prog fn (OpenSpec.ofChange s) false w args) (s.post enc C.prog fn false true false false):=by
 refine returnsInHanded_of_change_and (C:=C) (X:=X) hX own started hinit hfn witness ?_
 intro W base args ds gs before hval hW _ hsz _ _
 have hW':=hW
 obtain⟨p,q,hA,hV,rfl,hfz,hnd⟩:=hW
 rw[hvars]at hV
 obtain⟨rfl,rfl⟩:=Go.ChangeShapes.trodVars_none hV
 have hlen:=Go.trodAll_length hA
 have hwt: ∀z ∈ DataW.weightsEach C.prog fn.params.toList ds,z≤reachBytes:=by
  intro z hz
  have e:s.plain.varTypes C.prog=[]:=by unfold DataSpec.varTypes ChangeSpec.plain;simp[hvars]
  rw[e,List.append_nil,List.append_nil]at hsz
  simpa using List.all_eq_true.1 hsz z hz
 obtain⟨R',H',us,Hl,_,_,hL,hvs,hok⟩:=Rt (base:=base) fn.params.toList args.toList ds p Pw hA qic (fun j t v h1 h2=>hval j t v (by simpa using h1) (by simpa using h2)) hwt K5 AJ (AL W)
 obtain⟨_,hcall⟩:=(hC f us H' _ (key H' us Hl hL.ro hL.zU.wf hok)).resolve_right fun hh=>by
  have:=hh.1 fn hfn
  rw[hbody]at this
  cases this
 refine(hcall R' W args hL.zU hvs).mono fun e W' he=> ?_
 obtain⟨r,r',R2,H2,rfl,rfl,hvr,Nj,pR⟩:=he
 have hr:r' = .bool true:=by cases hvr;rfl
 subst hr
 have bel:RowKit.Below W.heap.size W W':=⟨pR.os,pR.tape,pR.output,pR.size,fun k hk=>pR.frame k hk fun b _ hb=>(hL.ro b hb).elim⟩
 have hds:(ds++([]:List (DataW Hd))).length=fn.params.toList.length:=by simpa using hlen.2
 refine⟨_,rfl,ds,[],p++[],[],p,[],hW',?_,?_,?_,bel.frame _,fun h=>by cases h⟩
 ·rw[hs Hd _ hds,hres]
  exact Go.ChangeShapes.trodAll_mk1 (Go.RowKit.shut_bool hrt true)
 ·rw[hs Hd _ hds,List.append_nil]
  exact Ol hlaid bel hread hA
 ·rw[hs Hd _ hds,hvars]
  exact rfl
end Go.Proofs.YtofpmkhcbijilaaGreatDoorI
