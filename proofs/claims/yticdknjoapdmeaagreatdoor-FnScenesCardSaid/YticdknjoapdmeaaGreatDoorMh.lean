/- Several texts in one: AsM, TokI, PriP, ReadL, SplL, Idn, NodeV, UsesS, OwnW, CheckA, MapW, ExprW, CheckN. -/
import Derived.Test.YticdknjoapdmeaaGreatDoorMa
import Derived.Test.YticdknjoapdmeaaGreatDoorMg
import Derived.LaidEql
import Derived.Stop.Asserts
import Derived.RowKitTokens
import Derived.Laws.EntriesVeiled
import Derived.Recover
import Derived.Test.YticdknjoapdmeaaGreatDoorMe
import Derived.Test.YticdknjoapdmeaaGreatDoorMc
import Derived.Laws.RangeAny
import Derived.LoopTactic
import Derived.Test.YticdknjoapdmeaaGreatDoorMd
import Derived.BigQuiet
import Derived.Deep.QuietTactic
import Derived.Deep.RegionHeld3
import Derived.Maps.Own
import Derived.Maps.OwnOps
import Derived.Maps.OwnSet
import Derived.Maps.Views
set_option linter.unusedVariables false
set_option linter.unusedSimpArgs false
set_option linter.unnecessarySimpa false
namespace Go.Proofs.YticdknjoapdmeaaGreatDoor
set_option maxHeartbeats 16000000
section
set_option maxRecDepth 100000
open Go.RowKit Go.Lib Go.Extern.Stop Go.Stop Go.Extern
theorem As.nil (t:Value) (w:World) :
  CL 191 #[.nilIface,t] w λe w'=>e=.returned (.bool false)/\w=w':=by
 go_enter Tryz.func191,Tryz.ntmps191
 go_wp2
 go_ret
 exact ⟨rfl,rfl⟩
theorem As.valueOfP (t:Addr) (w:World):(ReflectliteValue.unpack (.iface 212 (.pointer (some t)))).run Tryz.prog w
  = .ok (.agg #[.pointer (some ⟨9,212,none⟩),.pointer (some ⟨w.heap.size,0,none⟩),.int .u64 150]) (w.alloc (.cells #[.pointer (some t)] 212)):=kr
theorem As.typeP (a:Addr) (w:World):(ReflectliteValue.methodAny (ReflectliteValue.valueError "reflectlite.Value.Type" 0) (λt _ _ _=>ReflectliteType.toType t) #[.agg #[.pointer (some ⟨9,212,none⟩),.pointer (some a),.int .u64 150]]).run Tryz.prog w
  = .ok (.iface 295 (.agg #[.pointer (some ⟨9,212,none⟩)])) w:=kr
theorem As.methodKind (h:Value) (w:World):(Go.method 453 295 (.agg #[h]) "Kind").run Tryz.prog w=.ok (307,h) w:=kr
theorem As.kindP (w:World):((ReflectliteType.abiMethod λt=>(λa:Nat=>Value.int IntKind.u8 (a:Int)) <$> Rtype.kind t) #[.pointer (some ⟨9,212,none⟩)]).run Tryz.prog w=.ok (.int .u8 22) w:=kr
theorem As.kindE (w:World):((ReflectliteType.abiMethod λt=>(λa:Nat=>Value.int IntKind.u8 (a:Int)) <$> Rtype.kind t) #[.pointer (some ⟨9,210,none⟩)]).run Tryz.prog w=.ok (.int .u8 22) w:=kr
theorem As.rlm (z:Sem Value) (f:TypeId->Addr->Nat->Nat->Sem Value) (v:Value) :
  ReflectliteValue.method z f #[v]=(do match <- ReflectliteValue.parts v with|none=>z|some (t,a,fl)=>f t a fl (fl % 32)):=rfl
theorem As.partsP (a:Addr) (w:World):(ReflectliteValue.parts (.agg #[.pointer (some ⟨9,212,none⟩),.pointer (some a),.int .u64 150])).run Tryz.prog w=.ok (some (212,a,150)) w:=kr
theorem As.isNilP (a p:Addr) (W:World) (ha:W.cell? a=some (.pointer (some p))) :
  (ReflectliteValue.method (ReflectliteValue.valueError "reflectlite.Value.IsNil" 0) ReflectliteValue.isNil #[.agg #[.pointer (some ⟨9,212,none⟩),.pointer (some a),.int .u64 150]]).run Tryz.prog W=.ok (.bool false) W:=by
 rw [As.rlm]
 simp only [Sem.run_bind,As.partsP,Result.andThen]
 simp [ReflectliteValue.isNil,loadVar,isAgg,underlying,Tryz.underlying212,ha,Result.andThen]
theorem As.methodElem (h:Value) (w:World):(Go.method 453 295 (.agg #[h]) "Elem").run Tryz.prog w=.ok (328,.agg #[h]) w:=kr
theorem As.methodImplements (h:Value) (w:World):(Go.method 453 295 (.agg #[h]) "Implements").run Tryz.prog w=.ok (329,.agg #[h]) w:=kr
theorem As.methodAssignableTo (h:Value) (w:World):(Go.method 453 295 (.agg #[h]) "AssignableTo").run Tryz.prog w=.ok (326,.agg #[h]) w:=kr
theorem As.elemP (w:World):(ReflectliteType.method ReflectliteType.elem #[.agg #[.pointer (some ⟨9,212,none⟩)]]).run Tryz.prog w=.ok (.iface 295 (.agg #[.pointer (some ⟨9,210,none⟩)])) w:=kr
theorem As.implementsE (w:World):(ReflectliteType.relation "Implements" ReflectliteType.implements_ #[.agg #[.pointer (some ⟨9,210,none⟩)],.iface 295 (.agg #[.pointer (some ⟨9,132,none⟩)])]).run Tryz.prog w=.ok (.bool true) w:=kr
theorem As.typeOfE (v:Value) (w:World):(ReflectliteType.typeOf #[.iface 210 v]).run Tryz.prog w=.ok (.iface 295 (.agg #[.pointer (some ⟨9,210,none⟩)])) w:=kr
theorem As.assignableE (w:World):(ReflectliteType.relation "AssignableTo" ReflectliteType.assignableTo #[.agg #[.pointer (some ⟨9,210,none⟩)],.iface 295 (.agg #[.pointer (some ⟨9,210,none⟩)])]).run Tryz.prog w=.ok (.bool true) w:=kr
theorem As.valueOfE (e:Addr) (w:World):(ReflectliteValue.unpack (.iface 210 (.pointer (some e)))).run Tryz.prog w
  = .ok (.agg #[.pointer (some ⟨9,210,none⟩),.pointer (some ⟨w.heap.size,0,none⟩),.int .u64 150]) (w.alloc (.cells #[.pointer (some e)] 210)):=kr
theorem As.elemOfP (w:World):(Rtype.elem? 212).run Tryz.prog w=.ok (some 210) w:=kr
theorem As.mkE (p:Addr) (w:World):(ReflectliteValue.mk 210 p ReflectliteValue.flagAddr).run Tryz.prog w=.ok (.agg #[.pointer (some ⟨9,210,none⟩),.pointer (some p),.int .u64 406]) w:=kr
theorem As.elemVP (a p:Addr) (W:World) (ha:W.cell? a=some (.pointer (some p))) :
  (ReflectliteValue.method (ReflectliteValue.valueError "reflectlite.Value.Elem" 0) ReflectliteValue.elem #[.agg #[.pointer (some ⟨9,212,none⟩),.pointer (some a),.int .u64 150]]).run Tryz.prog W
   = .ok (.agg #[.pointer (some ⟨9,210,none⟩),.pointer (some p),.int .u64 406]) W:=by
 rw [As.rlm]
 simp only [Sem.run_bind,As.partsP,Result.andThen]
 simp [ReflectliteValue.elem,loadVar,isAgg,underlying,Tryz.underlying212,ha,Result.andThen,As.elemOfP,As.mkE]
theorem As.rls (v x:Value):ReflectliteValue.set #[v,x]=(do
  let (some (dst,a,fl),some (src,b,_)):=(<- ReflectliteValue.parts v,<- ReflectliteValue.parts x)
   | unsupported (.noEntry "extern/(internal/reflectlite.Value).Set.zeroValue")
  if fl / ReflectliteValue.flagAddr % 2==0 then unsupported (.noEntry "extern/(internal/reflectlite.Value).Set.unaddressable")
  let val <- loadVar src b
  if <- Rtype.directlyAssignable dst src then storeVar dst a val
  else if <- Rtype.implements dst src then
   if (<- Rtype.kind src)==20 then
    match val with
    | .nilIface=>unsupported (.noEntry "extern/reflectlite: a nil value of one interface type handed on as a value of another")
    | _=>storeVar dst a val
   else storeVar dst a (.iface src val)
  else panicString ("reflectlite.Set: value of type " ++ (<- Rtype.spelt src) ++ " is not assignable to type " ++ (<- Rtype.spelt dst))
  pure (.tuple #[])):=rfl
theorem As.partsEa (a:Addr) (w:World):(ReflectliteValue.parts (.agg #[.pointer (some ⟨9,210,none⟩),.pointer (some a),.int .u64 406])).run Tryz.prog w=.ok (some (210,a,406)) w:=kr
theorem As.partsE (a:Addr) (w:World):(ReflectliteValue.parts (.agg #[.pointer (some ⟨9,210,none⟩),.pointer (some a),.int .u64 150])).run Tryz.prog w=.ok (some (210,a,150)) w:=kr
theorem As.directE (w:World):(Rtype.directlyAssignable 210 210).run Tryz.prog w=.ok true w:=kr
theorem As.setE (ta b e:Addr) (old:Value) (W:World) (hb:W.cell? b=some (.pointer (some e))) (ht:W.cell? ta=some old) (hf:W.frozen? ta=false) :
  (ReflectliteValue.set #[.agg #[.pointer (some ⟨9,210,none⟩),.pointer (some ta),.int .u64 406],.agg #[.pointer (some ⟨9,210,none⟩),.pointer (some b),.int .u64 150]]).run Tryz.prog W
   = .ok (.tuple #[]) (W.setCell ta (.pointer (some e))):=by
 rw [As.rls]
 simp only [Sem.run_bind,As.partsEa,As.partsE,Result.andThen]
 simp [ReflectliteValue.flagAddr,loadVar,isAgg,underlying,Tryz.underlying210,hb,Result.andThen,As.directE,storeVar,Value.cells,storeCells,Addr.add]
 rw [run_store Tryz.prog W ta _ _ qr]
 simp [ht,hf]
def Zna (w:World):Prop:=w.cell? ⟨1,0,none⟩=some (.iface 295 (.agg #[.pointer (some ⟨9,132,none⟩)]))
theorem Zna.lt {w:World} (h:Zna w):1<w.heap.size:=by
 rcases Nat.lt_or_ge 1 w.heap.size with h0|h0
 ·exact h0
 ·unfold Zna at h;simp [World.cell?,h0] at h
theorem Zna.step {w w':World} (h:Zna w) (hb:Bw w w'):Zna w':=by
 have:=h.lt
 unfold Zna at *
 rw [hb.cell (p:=⟨1,0,none⟩) this];exact h
set_option maxHeartbeats 4000000 in
theorem As.hit (e t:Addr) (old:Value) (w:World) (hg:Zna w) (ht0:w.cell? t=some old) (hf0:w.frozen? t=false) :
  CL 191 #[.iface 210 (.pointer (some e)),.iface 212 (.pointer (some t))] w λev w'=>ev=.returned (.bool true)/\((((w.alloc (.cells #[.pointer (some t)] 212)).alloc (.cells #[.pointer (some ⟨9,212,none⟩),.pointer (some ⟨w.heap.size,0,none⟩),.int .u64 150] 249)).alloc (.cells #[.pointer (some ⟨9,212,none⟩),.pointer (some ⟨w.heap.size,0,none⟩),.int .u64 150] 249)).alloc (.cells #[.pointer (some e)] 210)).setCell t (.pointer (some e))=w':=by
 have hlt:=hg.lt
 unfold Zna at hg
 have h6 := @run_callFunc_extern Tryz.prog 241 _ (λargs=>ReflectliteValue.unpack (args.getD 0 (.tuple #[]))) Tryz.func241 kr kr kr kr
 have h7 := @run_callFunc_extern Tryz.prog 242 _ (ReflectliteValue.methodAny (ReflectliteValue.valueError "reflectlite.Value.Type" 0) (λt _ _ _=>ReflectliteType.toType t)) Tryz.func242 kr kr kr kr
 have h8 := @run_callFunc_extern Tryz.prog 243 _ (ReflectliteValue.method (ReflectliteValue.valueError "reflectlite.Value.IsNil" 0) ReflectliteValue.isNil) Tryz.func243 kr kr kr kr
 have h27 := @run_callFunc_extern Tryz.prog 307 _ (ReflectliteType.abiMethod λt=>do pure (.int .u8 (<- Rtype.kind t))) Tryz.func307 kr kr kr kr
 have h37 := @run_callFunc_extern Tryz.prog 328 _ (ReflectliteType.method ReflectliteType.elem) Tryz.func328 kr kr kr kr
 have h38 := @run_callFunc_extern Tryz.prog 329 _ (ReflectliteType.relation "Implements" ReflectliteType.implements_) Tryz.func329 kr kr kr kr
 have h10 := @run_callFunc_extern Tryz.prog 271 _ ReflectliteType.typeOf Tryz.func271 kr kr kr kr
 have h35 := @run_callFunc_extern Tryz.prog 326 _ (ReflectliteType.relation "AssignableTo" ReflectliteType.assignableTo) Tryz.func326 kr kr kr kr
 have h11 := @run_callFunc_extern Tryz.prog 272 _ (ReflectliteValue.method (ReflectliteValue.valueError "reflectlite.Value.Elem" 0) ReflectliteValue.elem) Tryz.func272 kr kr kr kr
 have h12 := @run_callFunc_extern Tryz.prog 273 _ ReflectliteValue.set Tryz.func273 kr kr kr kr
 have tO:=As.typeOfE
 have mA:=As.methodAssignableTo
 have aE:=As.assignableE
 have vE:=As.valueOfE
 have fP:=As.valueOfP
 have fT:=As.typeP
 have mK:=As.methodKind
 have mE:=As.methodElem
 have mI:=As.methodImplements
 have kP:=As.kindP
 have kE:=As.kindE
 have eP:=As.elemP
 have iE:=As.implementsE
 have n8:=As.isNilP ⟨w.heap.size,0,none⟩ t ((w.alloc (.cells #[.pointer (some t)] 212)).alloc (.cells #[.pointer (some ⟨9,212,none⟩),.pointer (some ⟨w.heap.size,0,none⟩),.int .u64 150] 249)) qs
 have hg2:((w.alloc (.cells #[.pointer (some t)] 212)).alloc (.cells #[.pointer (some ⟨9,212,none⟩),.pointer (some ⟨w.heap.size,0,none⟩),.int .u64 150] 249)).cell? ⟨1,0,none⟩=some (.iface 295 (.agg #[.pointer (some ⟨9,132,none⟩)])):=by
  rw [World.cell?_alloc_lt _ _ ⟨1,0,none⟩ (by simp;try omega),World.cell?_alloc_lt _ _ ⟨1,0,none⟩ hlt];exact hg
 have htl:t.block<w.heap.size:=by
  rcases Nat.lt_or_ge t.block w.heap.size with h|h
  ·exact h
  ·simp [World.cell?,Array.getElem?_eq_none h] at ht0
 have el:=As.elemVP ⟨w.heap.size,0,none⟩ t (((w.alloc (.cells #[.pointer (some t)] 212)).alloc (.cells #[.pointer (some ⟨9,212,none⟩),.pointer (some ⟨w.heap.size,0,none⟩),.int .u64 150] 249)).alloc (.cells #[.pointer (some ⟨9,212,none⟩),.pointer (some ⟨w.heap.size,0,none⟩),.int .u64 150] 249)) (by rw [World.cell?_alloc_lt _ _ ⟨w.heap.size,0,none⟩ (by simp;omega)];simp)
 have st:=As.setE t ⟨w.heap.size+1+1+1,0,none⟩ e old ((((w.alloc (.cells #[.pointer (some t)] 212)).alloc (.cells #[.pointer (some ⟨9,212,none⟩),.pointer (some ⟨w.heap.size,0,none⟩),.int .u64 150] 249)).alloc (.cells #[.pointer (some ⟨9,212,none⟩),.pointer (some ⟨w.heap.size,0,none⟩),.int .u64 150] 249)).alloc (.cells #[.pointer (some e)] 210))
  (by rw [World.cell?_alloc_at _ _ _ _ qs];rfl)
  (by rw [World.cell?_alloc_lt _ _ t (by simp;omega),World.cell?_alloc_lt _ _ t (by simp;omega),World.cell?_alloc_lt _ _ t (by simp;omega),World.cell?_alloc_lt _ _ t htl];exact ht0)
  (by rw [World.frozen?_alloc_old _ _ t (by simp;omega),World.frozen?_alloc_old _ _ t (by simp;omega),World.frozen?_alloc_old _ _ t (by simp;omega),World.frozen?_alloc_old _ _ t (Nat.ne_of_lt htl)];exact hf0)
 go_enter Tryz.func191,Tryz.ntmps191
 go_wp2
 refine wp_loop_rounds 1 ?_
 rw [rounds_succ]
 go_wp2
 go_ret
 exact ⟨rfl,rfl⟩
end
section
set_option maxRecDepth 100000
open Go.RowKit Go.Lib
set_option maxHeartbeats 2000000 in
theorem Zvo {src:List UInt8} (w:World) (hs:src.length<=1048576) (hE:Zna w) :
  CL 134 #[str src] w (Zcn src 101 w):=by
 have HT:=qh (∀ wx,CL 190 #[str src] wx (Zdu src wx)) (λwx=>Zve wx hs)
 have HE:=hdQ hE
 unfold Zcn
 cases ht:toksF src with
 | error o =>
  have HT2:=qh (∀ wx,CL 190 #[str src] wx λe w'=>(∃ g,e=.returned (.tuple #[.slice none 0 0,.iface 210 (.pointer (some ⟨g,0,none⟩))])/\wx.heap.size<=g/\Own w' g 213 [.int .i64 o])/\Bw wx w') (λwx=>by have:=HT.out wx;unfold Zdu at this;rw [ht] at this;exact this)
  clear ht HT
  go_enter Tryz.func134,Tryz.ntmps134
  go_wp2_with fail
  refine (HT2.out _).mono ?_
  rintro e w1 ⟨⟨g,rfl,hg,ho⟩,hb1⟩
  have hz1:=hb1.size
  have hg2:=ho.lt
  have HB1:=hdQ hb1
  have HO:=hdQ ho
  have HE1:=hdQ (HE.out.step hb1)
  clear hb1 ho
  go_wp2_with fail
  refine (As.hit ⟨g,0,none⟩ ⟨w1.heap.size,0,none⟩ (.pointer none) _ (HE1.out.step (Below.alloc (Below.refl _ _) (Nat.le_refl _) _)) qs qs).mono ?_
  rintro e w2 ⟨rfl,hw2⟩
  have c0:w2.cell? ⟨w1.heap.size,0,none⟩=some (.pointer (some ⟨g,0,none⟩)):=by
   rw [<- hw2]
   exact ((((((Own.new w1 210 #[.pointer none]).alloc _).alloc _).alloc _).alloc _).set_ 0 (.pointer (some ⟨g,0,none⟩))).cell 0
  have ho2:Own w2 g 213 [.int .i64 o]:=by
   rw [<- hw2]
   refine Own.far ?_ (by simp;omega) _
   exact (((((HO.out.alloc _).alloc _).alloc _).alloc _).alloc _)
  have HB2:=qh (Bw w w2) (by rw [<- hw2];exact bll)
  have c1:w2.cell? ⟨g,0,none⟩=some (.int .i64 o):=ho2.cell 0
  clear hw2 ho2
  go_wp2_with fail
  go_region
  go_wp2_with fail
  go_ret2
  exact ⟨rfl,bll⟩
 | ok T =>
  have HT2:=qh (∀ wx,CL 190 #[str src] wx λe w'=>∃ A c,e=.returned (.tuple #[.slice A T.length c,.nilIface])/\Zaj w' wx.heap.size 101 4 A T.length c (Zip T)/\Bw wx w') (λwx=>by have:=HT.out wx;unfold Zdu at this;rw [ht] at this;exact this)
  clear ht HT
  go_enter Tryz.func134,Tryz.ntmps134
  go_wp2_with fail
  refine (HT2.out _).mono ?_
  rintro e w1 ⟨A,c,rfl,hg,hb1⟩
  have HB1:=hdQ hb1
  have hz1:=hb1.size
  have HG1:=hdQ hg
  clear hb1 hg
  go_wp2_with (first|(go_at_call 191;refine (As.nil _ _).mono ?_;rintro e w' ⟨rfl,rfl⟩)|fail)
  go_ret2
  exact ⟨_,_,rfl,(gwx HG1.out),bll⟩
theorem T.assertNil (w:World):(Instr.typeAssert .nilIface 20 170 true).run Tryz.prog w=.ok (.tuple #[.agg #[.int .i64 0],.bool false]) w:=kr
theorem T.assertRej (o:Int) (w:World):(Instr.typeAssert (.iface 170 (.agg #[.int .i64 o])) 20 170 true).run Tryz.prog w=.ok (.tuple #[.agg #[.int .i64 o],.bool true]) w:=kr
theorem Zm3 (x y z t a b p:Value) : #[x,y]++(((((((Array.replicate 11 undef).setIfInBounds 3 z).setIfInBounds 4 t).setIfInBounds 2 t).setIfInBounds 5 a).setIfInBounds 6 b).setIfInBounds 0 p).setIfInBounds 1 b = #[x,y,p,b,t,z,t,a,b,undef,undef,undef,undef]:=by
 rw [show (Array.replicate 11 undef:Array Value) = #[undef,undef,undef,undef,undef,undef,undef,undef,undef,undef,undef] from rfl]
 simp only [List.setIfInBounds_toArray,List.set_cons_zero,List.set_cons_succ,List.append_toArray,List.cons_append,List.nil_append]
theorem Zsa {g h:Nat} (w:World) :
  CallsD Tryz.prog 135 #[.pointer (some ⟨g,0,none⟩),.pointer (some ⟨h,0,none⟩)] .returning w λe u' w'=>e=.returned (.tuple #[])/\u'=.returning/\w.alloc (.cells #[.int .i64 0] 170)=w':=by
 refine callsD_of_wpS Tryz.func135 rfl λc₀ cs hu=>?_
 have hta:=T.assertNil
 apply wpS_seq
 apply wpS_region
 simp [hta,wpOpsS,go_sem,recoverD,hu,Tryz.ntmps135,Exit.thenS]
 rw [Zm3]
 refine wpS_of_wp ?_
 go_wp2_with fail
 cases c₀
 simp_all [bodyPostS,results,Tryz.results135]
theorem I_catch {g h:Nat} {o:Int} (w:World) (c0 c1 c2:Value) (h0:w.cell? ⟨g,0,none⟩=some c0) (h1:w.cell? ⟨g,1,none⟩=some c1) (h2:w.cell? ⟨h,0,none⟩=some c2) (f0:∀ i,w.frozen? ⟨g,i,none⟩=false) (f2:∀ i,w.frozen? ⟨h,i,none⟩=false) (hgh:g≠h) :
  CallsD Tryz.prog 135 #[.pointer (some ⟨g,0,none⟩),.pointer (some ⟨h,0,none⟩)] (.panicking (rej o)) w λe u' w'=>e=.returned (.tuple #[])/\u'=.panicking [{ v:=.iface 170 (.agg #[.int .i64 o]),recovered:=true }]/\((((w.alloc (.cells #[.int .i64 o] 170)).setCell ⟨g,0,none⟩ (.slice none 0 0)).setCell ⟨g,1,none⟩ (.slice none 0 0)).setCell ⟨h,0,none⟩ (.int .i64 o)).drew=w':=by
 refine callsD_of_wpS Tryz.func135 rfl λc₀ cs hu=>?_
 have hta:=T.assertRej o
 apply wpS_seq
 apply wpS_region
 simp [hta,wpOpsS,go_sem,recoverD,hu,Tryz.ntmps135,Exit.thenS]
 rw [Zm3]
 refine wpS_of_wp ?_
 have hg:g<w.heap.size:=by
  rcases Nat.lt_or_ge g w.heap.size with q|q
  ·exact q
  ·simp [World.cell?,q] at h0
 have hh:h<w.heap.size:=by
  rcases Nat.lt_or_ge h w.heap.size with q|q
  ·exact q
  ·simp [World.cell?,q] at h2
 have hgh':¬ g=h:=hgh
 have hhg:¬ h=g:=λe=>hgh e.symm
 go_wp2_with fail
 obtain ⟨u,hu2⟩:=qv (w.alloc (.cells #[.int .i64 o] 170))
 have a0:u.cell? ⟨g,0,none⟩=some c0:=by rw [<- hu2,World.cell?_alloc_lt _ _ ⟨g,0,none⟩ hg];exact h0
 have a1:u.cell? ⟨g,1,none⟩=some c1:=by rw [<- hu2,World.cell?_alloc_lt _ _ ⟨g,1,none⟩ hg];exact h1
 have a2:u.cell? ⟨h,0,none⟩=some c2:=by rw [<- hu2,World.cell?_alloc_lt _ _ ⟨h,0,none⟩ hh];exact h2
 have b0:∀ i,u.frozen? ⟨g,i,none⟩=false:=λi=>by rw [<- hu2,World.frozen?_alloc_old _ _ ⟨g,i,none⟩ (Nat.ne_of_lt hg)];exact f0 i
 have b2:∀ i,u.frozen? ⟨h,i,none⟩=false:=λi=>by rw [<- hu2,World.frozen?_alloc_old _ _ ⟨h,i,none⟩ (Nat.ne_of_lt hh)];exact f2 i
 have d0:u.cell? ⟨w.heap.size,0,none⟩=some (.int .i64 o):=by rw [<- hu2];simp
 have hz:u.heap.size=w.heap.size+1:=by rw [<- hu2];simp
 have hgn:¬ g=w.heap.size:=qo
 have hhn:¬ h=w.heap.size:=qo
 rw [hu2]
 clear hta
 go_region_held3 (λw'=>w'.cell? ⟨w.heap.size,0,none⟩=some (.int .i64 o)/\w'.frozen? ⟨g,0,none⟩=false/\w'.frozen? ⟨g,1,none⟩=false/\w'.frozen? ⟨h,0,none⟩=false)
  (first|((try dsimp only);refine ⟨?_, ?_, ?_, ?_⟩<;>(go_simp;done))|go_keep)
  (fail)
 all_goals
  subst hu2
  exact ⟨rfl,.panicking [{ v:=.iface 170 (.agg #[.int .i64 o]),recovered:=true }],rfl,.tuple #[],by simp [results,Tryz.results135],rfl,rfl,rfl⟩
theorem I_Parse {src:List UInt8} (w:World) (hs:src.length<=1048576) (hEt:Zna w) :
  CL 73 #[str src] w (Zbo src w):=by
 have hmf:∀ (fn:Fn) (first cap:Array Value) (w:World),(Instr.makeFunc fn first cap).run Tryz.prog w=.ok (.func fn first cap) w:=λ_ _ _ _=>rfl
 have HE:=hdQ hEt
 have HTK:=qh (∀ wx,Bw w wx->CL 134 #[str src] wx (Zcn src 101 wx)) (λwx hb=>Zvo wx hs (HE.out.step hb))
 cases ht:toksF src with
 | error o =>
  have HF:=hdQ (Zs6 ht)
  have HT2:=qh (∀ wx,Bw w wx->CR 134 #[str src] wx (.tuple #[.slice none 0 0,.int .i64 o])) (λwx hb=>(HTK.out wx hb).mono (λe w' h=>by unfold Zcn at h;rw [ht] at h;exact h))
  clear HTK ht hEt
  have ho0:¬ (o:Int)<0:=qo
  go_enter_defers Tryz.func73,Tryz.ntmps73
  go_wp2_with fail
  refine (HT2.out _ bll).mono ?_
  rintro e w1 ⟨rfl,hb1⟩
  have hz1:=hb1.size
  (try simp at hz1)
  have HB1:=bh w hb1
  have HO1:=qh (Own w1 w.heap.size 62 [.slice none 0 0,.slice none 0 0]) (Own.step hb1 (Own.alloc (Own.new w 62 #[_,_]) _))
  have HO2:=qh (Own w1 (w.heap.size+1) 3 [.int .i64 0]) (Own.step hb1 (by (with_reducible refine Own.at_new ?_);simp))
  have c0:=HO1.out.cell 0
  have c1:=HO1.out.cell 1
  have cf:=HO1.out.frozen
  have d0:=HO2.out.cell 0
  have df:=HO2.out.frozen
  (try dsimp only [List.getElem?_cons_succ,List.getElem?_cons_zero] at c0 c1 d0)
  clear hb1
  go_wp2_with fail
  have HO3:=qh (Own (w1.setCell ⟨w.heap.size+1,0,none⟩ (.int .i64 o)) w.heap.size 62 [.slice none 0 0,.slice none 0 0]) (HO1.out.far qs _)
  have HO4:=qh (Own (w1.setCell ⟨w.heap.size+1,0,none⟩ (.int .i64 o)) (w.heap.size+1) 3 [.int .i64 o]) (HO2.out.set_ 0 _)
  have HB3:=qh (Bw w (w1.setCell ⟨w.heap.size+1,0,none⟩ (.int .i64 o))) bll
  clear c0 c1 cf d0 df hz1
  generalize w1.setCell ⟨w.heap.size+1,0,none⟩ (.int .i64 o)=u at *
  have c0:=HO3.out.cell 0
  have c1:=HO3.out.cell 1
  have cf:=HO3.out.frozen
  have d0:=HO4.out.cell 0
  have df:=HO4.out.frozen
  have hz3:=HO4.out.lt
  have hz4:w.heap.size<u.heap.size:=qo
  (try dsimp only [List.getElem?_cons_succ,List.getElem?_cons_zero] at c0 c1 d0)
  go_region_held3 (λw'=>w'.cell? ⟨w.heap.size+1,0,none⟩=some (.int .i64 o)/\w'.frozen? ⟨w.heap.size,0,none⟩=false/\w'.frozen? ⟨w.heap.size,1,none⟩=false/\w'.frozen? ⟨w.heap.size+1,0,none⟩=false)
   (first|((try dsimp only);refine ⟨?_, ?_, ?_, ?_⟩<;>(go_simp;done))|go_keep)
   (fail)
  all_goals
   go_wp2_with fail
   refine ⟨.tuple #[.agg #[.slice none 0 0,.slice none 0 0],.int .i64 o], ?_,Zbo.mk_ HF.out rfl rfl (Zcb.nil _ _) bll⟩
   simp [results,Tryz.results73,go_sem, *]
 | ok Ts =>
  have HPF:=hdQ (Zw0 ht)
  obtain ⟨hk,hl2⟩:=Zv6 ht
  obtain ⟨R,hR⟩:=Ztj hk.ok (N:=Zc1 Ts) (Nat.le_refl _) (Ts.length+1) 0 [] [] hk.ok.pos qo
  have HT2:=qh (∀ wx,Bw w wx->CL 134 #[str src] wx λe w'=>∃ g c,e=.returned (.tuple #[.slice (some ⟨g,0,none⟩) Ts.length c,.int .i64 (-1)])/\Zaj w' wx.heap.size 101 4 (some ⟨g,0,none⟩) Ts.length c (Zip Ts)/\Bw wx w') (λwx hb=>(HTK.out wx hb).mono (λe w' h=>by
   unfold Zcn at h
   rw [ht] at h
   obtain ⟨A,c,rfl,hg,hb⟩:=h
   rcases hg.shape with ⟨_,h0,_⟩|⟨g,cur,rfl,_⟩
   ·have:=hk.ok.pos;omega
   ·exact ⟨g,c,rfl,hg,hb⟩))
  have HAS:=qh (∀ (wx:World) (g tc B:Nat),Zbh wx B (w.heap.size+2) (some ⟨g,0,none⟩) tc Ts none 0 [] (List.range (w.heap.size+2)) 0 0 none 0 []->CL 136 #[.pointer (some ⟨B,0,none⟩)] wx (AOut B (w.heap.size+2) (some ⟨g,0,none⟩) tc Ts (List.range (w.heap.size+2)) R wx)) (λwx g tc B q=>Zog hk hl2 wx q hR)
  have HR:=hdQ hR
  have HK:=hdQ hk
  clear HTK ht hR hEt
  go_enter_defers Tryz.func73,Tryz.ntmps73
  go_wp2_with fail
  refine (HT2.out _ bll).mono ?_
  rintro e w1 ⟨g,tc,rfl,hg1,hb1⟩
  have hz1:=hb1.size
  rw [World.size_alloc,World.size_alloc] at hg1
  (try simp at hz1)
  have HB1:=bh w hb1
  have HO1:=qh (Own w1 w.heap.size 62 [.slice none 0 0,.slice none 0 0]) (Own.step hb1 (Own.alloc (Own.new w 62 #[_,_]) _))
  have HO2:=qh (Own w1 (w.heap.size+1) 3 [.int .i64 0]) (Own.step hb1 (by (with_reducible refine Own.at_new ?_);simp))
  have HG1:=hdQ hg1
  clear hb1 hg1
  have HO3:=qh (Own (w1.setCell ⟨w.heap.size+1,0,none⟩ (.int .i64 (-1))) w.heap.size 62 [.slice none 0 0,.slice none 0 0]) (HO1.out.far qs _)
  have HO4:=qh (Own (w1.setCell ⟨w.heap.size+1,0,none⟩ (.int .i64 (-1))) (w.heap.size+1) 3 [.int .i64 (-1)]) (HO2.out.set_ 0 _)
  have HB3:=qh (Bw w (w1.setCell ⟨w.heap.size+1,0,none⟩ (.int .i64 (-1)))) bll
  have HG3:=qh (Zaj (w1.setCell ⟨w.heap.size+1,0,none⟩ (.int .i64 (-1))) (w.heap.size+2) 101 4 (some ⟨g,0,none⟩) Ts.length tc (Zip Ts)) (HG1.out.far qs _)
  have c0:=HO1.out.cell 0
  have d0:=HO2.out.cell 0
  have df:=HO2.out.frozen
  (try dsimp only [List.getElem?_cons_succ,List.getElem?_cons_zero] at c0 d0)
  have hs3:(w1.setCell ⟨w.heap.size+1,0,none⟩ (.int .i64 (-1))).heap.size=w1.heap.size:=by simp [World.setCell]
  obtain ⟨u,hu⟩:=qv (w1.setCell ⟨w.heap.size+1,0,none⟩ (.int .i64 (-1)))
  rw [hu] at HO3 HO4 HB3 HG3 hs3
  have x0:=HO4.out.cell 0
  have xf:=HO4.out.frozen
  (try dsimp only [List.getElem?_cons_succ,List.getElem?_cons_zero] at x0)
  have HIP:=qh (Zbh (u.alloc (.cells #[.slice (some ⟨g,0,none⟩) Ts.length tc,.int .i64 0,.int .i64 0,.slice none 0 0,.slice none 0 0] 174)) w1.heap.size (w.heap.size+2) (some ⟨g,0,none⟩) tc Ts none 0 [] (List.range (w.heap.size+2)) 0 0 none 0 []) (by
   have hTl:∀ x,x∈gOf (some (⟨g,0,none⟩:Addr))->w.heap.size+2<=x/\x<w1.heap.size:=λx hx=>⟨HG3.out.ge x hx,by have:=HG3.out.lt x hx;omega⟩
   refine ⟨Own.at_new (cs := #[_,_,_,_,_]) hs3.symm,⟨(HG3.out.alloc _).rs,Zaj.nil _ _ _ _,⟨[],Zaj.nil _ _ _ _,Zb9.nil _ _ _,Zfb.nil _⟩,λx hx=>⟨?_,by simp [gOf],by simp [gOf], ?_⟩,λx hx=>by simp [gOf] at hx,λx hx=>by simp [gOf] at hx, ?_, ?_,λx hx=>?_,λx hx=>?_,qs⟩⟩
   ·have:=hTl x hx;omega
   ·have:=hTl x hx;simp;omega
   ·simp;omega
   ·simp;omega
   ·have:=hTl x hx;simp;omega
   ·simp at hx ⊢;omega)
  have HO3':Hid (Own (u.alloc (.cells #[.slice (some ⟨g,0,none⟩) Ts.length tc,.int .i64 0,.int .i64 0,.slice none 0 0,.slice none 0 0] 174)) w.heap.size 62 [.slice none 0 0,.slice none 0 0]):=hdQ (HO3.out.alloc _)
  have HO4':Hid (Own (u.alloc (.cells #[.slice (some ⟨g,0,none⟩) Ts.length tc,.int .i64 0,.int .i64 0,.slice none 0 0,.slice none 0 0] 174)) (w.heap.size+1) 3 [.int .i64 (-1)]):=hdQ (HO4.out.alloc _)
  have HB3':Hid (Bw w (u.alloc (.cells #[.slice (some ⟨g,0,none⟩) Ts.length tc,.int .i64 0,.int .i64 0,.slice none 0 0,.slice none 0 0] 174))):=hdQ (Below.alloc HB3.out HB3.out.size _)
  have HA:=hdQ (HAS.out _ _ _ _ HIP.out)
  go_wp2_with fail
  clear hu
  cases R with
  | error o =>
   refine HA.out.mono ?_
   rintro e u1 ⟨hO,rfl,hd⟩
   have HO5:=hdQ (hO.own HO3'.out HO3'.out.lt (by simp;omega))
   have HO6:=hdQ (hO.own HO4'.out HO4'.out.lt (by simp;omega))
   have HB5:=qh (Bw w u1) (Zcv HB3'.out hO (λy hy=>by simp at hy;omega))
   have HF:=qh (parF src=(([],[]),o)) (by rw [HPF.out];exact Zkn HR.out)
   clear hO hd
   go_wp2_with fail
   refine leaves_cons (f:=135) (args := #[.pointer (some ⟨w.heap.size,0,none⟩),.pointer (some ⟨w.heap.size+1,0,none⟩)]) qs (by have hf:=Tryz.func135;simp [go_sem,hf]) ?_
   refine (I_catch u1 _ _ _ (HO5.out.cell 0) (HO5.out.cell 1) (HO6.out.cell 0) HO5.out.frozen HO6.out.frozen qo).mono ?_
   rintro e m w' ⟨rfl,rfl,hw'⟩
   have k0:=Own.drew (Own.far (Own.set_ (Own.set_ (HO5.out.alloc (.cells #[.int .i64 o] 170)) 0 (.slice none 0 0)) 1 (.slice none 0 0)) (p:=⟨w.heap.size+1,0,none⟩) qs (.int .i64 o))
   have k2:=Own.drew (Own.set_ (Own.far (Own.far (HO6.out.alloc (.cells #[.int .i64 o] 170)) (p:=⟨w.heap.size,0,none⟩) qs (.slice none 0 0)) (p:=⟨w.heap.size,1,none⟩) qs (.slice none 0 0)) 0 (.int .i64 o))
   rw [hw'] at k0 k2
   have hz5:=HB5.out.size
   have HBF:Bw w w':=by rw [<- hw'];exact bll
   have y0:=k0.cell 0
   have y1:=k0.cell 1
   have y2:=k2.cell 0
   (try simp at y0 y1 y2)
   refine ⟨.tuple #[.agg #[.slice none 0 0,.slice none 0 0],.int .i64 o], ?_,Zbo.mk_ HF.out rfl rfl (Zcb.nil _ _) HBF⟩
   simp [results,Tryz.results73,go_sem,y0,y1,y2]
  | ok p =>
   refine HA.out.mono ?_
   rintro e u1 ⟨hO,AA,ac,a,NA,nc,rfl,hip,hal⟩
   have HO5:=hdQ (hO.own HO3'.out HO3'.out.lt (by simp;omega))
   have HO6:=hdQ (hO.own HO4'.out HO4'.out.lt (by simp;omega))
   have HB5:=qh (Bw w u1) (Zcv HB3'.out hO (λy hy=>by simp at hy;omega))
   have HF:=qh (parF src=(p, -1)) (by rw [HPF.out];exact Zs5 HR.out)
   have HP1:=hdQ hip
   obtain ⟨zB,_,_,_,z3,z4,_⟩:=hip.cells
   have y0:=HO5.out.cell 0
   have y1:=HO5.out.cell 1
   have yf:=HO5.out.frozen
   have yz:=HO5.out.lt
   have v0:=HO6.out.cell 0
   have vf:=HO6.out.frozen
   have vz:=HO6.out.lt
   (try dsimp only [List.getElem?_cons_succ,List.getElem?_cons_zero] at y0 y1 v0)
   clear hO hip
   go_wp2_with fail
   have k0:=Own.far (Own.set_ (Own.set_ HO5.out 0 (.slice NA p.1.length nc)) 1 (.slice AA p.2.length ac)) (p:=⟨w.heap.size+1,0,none⟩) qs (.int .i64 (-1))
   have k2:=Own.set_ (Own.far (Own.far HO6.out (p:=⟨w.heap.size,0,none⟩) qs (.slice NA p.1.length nc)) (p:=⟨w.heap.size,1,none⟩) qs (.slice AA p.2.length ac)) 0 (.int .i64 (-1))
   refine leaves_cons (f:=135) (args := #[.pointer (some ⟨w.heap.size,0,none⟩),.pointer (some ⟨w.heap.size+1,0,none⟩)]) qs (by have hf:=Tryz.func135;simp [go_sem,hf]) ?_
   refine (Zsa _).mono ?_
   rintro e m w' ⟨rfl,rfl,hw'⟩
   have k0':=k0.alloc (.cells #[.int .i64 0] 170)
   have k2':=k2.alloc (.cells #[.int .i64 0] 170)
   rw [hw'] at k0' k2'
   have hz5:=HB5.out.size
   have HBF:Bw w w':=by rw [<- hw'];exact bll
   have hPM:Zcb w' w.heap.size NA nc p.1 AA ac p.2:=by
    refine Zcb.mono (PMem.progM (base:=w.heap.size+2) (B:=w1.heap.size) (TA:=some ⟨g,0,none⟩) (tc:=tc) (T:=Ts) (HP1.out.2.keepX ?_ (λz h1 h2 h3=>?_)) qo) qo
    ·rw [<- hw'];simp [World.setCell]
    ·have hz:z≠w.heap.size/\z≠w.heap.size+1:=by simp at h2;omega
     rw [<- hw',Below.heap_alloc _ _ _ (by simpa [World.setCell] using h3),Below.heap_setCell _ _ _ _ (by exact hz.2),Below.heap_setCell _ _ _ _ (by exact hz.1),Below.heap_setCell _ _ _ _ (by exact hz.1)]
   have x0:=k0'.cell 0
   have x1:=k0'.cell 1
   have x2:=k2'.cell 0
   (try simp at x0 x1 x2)
   refine ⟨.tuple #[.agg #[.slice NA p.1.length nc,.slice AA p.2.length ac],.int .i64 (-1)], ?_,Zbo.mk_ HF.out rfl rfl hPM HBF⟩
   simp [results,Tryz.results73,go_sem,x0,x1,x2]
theorem Zl2 {w0 w:World} {X:Nat} {s:EScene} (l:List UInt8) (hl:l.length<=1048576) (he:Env w0) (hT:Zna w0) (hb:Bw w0 w) (h:Zdf w w0.heap.size X s) (hp:s.ps.length<=1000000) (hq:s.ss.length<=1000000) (hu:(cut l [32]).1=wCam) :
  CL 26 #[.pointer (some ⟨X,0,none⟩),str l] w λe w'=>e=.returned (.tuple #[])/\Zdf w' w0.heap.size X (setCam s (parCam (cut l [32]).2.1))/\Bw w0 w':=by
 have HE:=hdQ he
 have HET:=hdQ hT
 have HLN:=hdQ (Ze3 l 32)
 obtain ⟨TX,tc,P,pc,Q,qc,hX,ho,hr⟩:=h
 have HO:=hdQ ho
 have HR:=hdQ hr
 have HB:=hdQ hb
 have hzw:=hb.size
 have hxl:=ho.lt
 have HCT:=qh (CR 69 #[str l,.string ⟨#[32]⟩] w (.tuple #[.string ⟨#[99,97,109,101,114,97]⟩,str (cut l [32]).2.1,.bool (cut l [32]).2.2])) (by have:=Zlq l 32 w hl (he.step hb);rw [hu] at this;exact this)
 have HPC:=qh (∀ wx,Bw w0 wx->CR 70 #[str (cut l [32]).2.1] wx (.tuple #[.agg ⟨cCam (setCam s (parCam (cut l [32]).2.1))⟩,.bool (parCam (cut l [32]).2.1).isSome])) (λwx hb=>by
  have:=Zoj (cut l [32]).2.1 wx (by have:=HLN.out;omega) (HE.out.step hb)
  unfold outC at this
  rw [cCam_set s] at this
  exact this)
 clear hu he hT hb ho hr HLN
 generalize parCam (cut l [32]).2.1=oc at *
 generalize (cut l [32]).2.1=v at *
 generalize (cut l [32]).2.2=fd at *
 go_enter Tryz.func26,Tryz.ntmps26
 go_wp2_with fail
 refine HCT.out.mono ?_
 rintro e w1 ⟨rfl,hb1⟩
 have hz1:=hb1.size
 have HB1:=qh (Bw w0 w1) (Below.step hb1 HB.out hzw)
 have HO1:=qh (Own w1 X 30 (cS s TX tc P pc Q qc)) (Own.step hb1 HO.out)
 have HR1:=qh (SceneR w1 w0.heap.size [X] s TX tc P pc Q qc) (HR.out.step hb1)
 clear hb1 HO HR
 go_wp2_with fail
 refine (HPC.out _ HB1.out).mono ?_
 rintro e w2 ⟨rfl,hb2⟩
 have hz2:=hb2.size
 obtain ⟨w3,hst,hs,hbk,hs3,e1,e2,e3⟩:=Zap (P:=Tryz.prog) (T:=23) (zs:=cCam (setCam s oc)) (k:=0) (Own.step hb2 HO1.out) zz_camI (by show 7<=12;omega) qr
 have HST:=hdQ hst
 have HAT:=qh (OnlyAt X w2 w3) ⟨hbk,hs3,e1,e2,e3⟩
 have HO3:=qh (Own w3 X 30 (cS (setCam s oc) TX tc P pc Q qc)) (by rw [<- cS_camP];exact hs)
 have HB2:=qh (Bw w0 w2) (Below.step hb2 HB1.out qo)
 have HR2:=qh (SceneR w2 w0.heap.size [X] s TX tc P pc Q qc) (HR1.out.step hb2)
 clear hb2 hst hs hbk hs3 e1 e2 e3
 go_wp2_with (first|(refine Zae rfl 23 (.tmp 25) (.tmp 22) rfl rfl rfl HST.out ?_)|fail)
 go_end0
 have hrows:=Zhj s oc
 exact ⟨rfl,⟨TX,tc,P,pc,Q,qc,hX,HO3.out,(HR2.out.at_ HAT.out).same hrows.1 hrows.2.1 hrows.2.2⟩,HAT.out.below hX HB2.out⟩
theorem Zli {w0 w:World} {X:Nat} {s:EScene} (l:List UInt8) (hl:l.length<=1048576) (he:Env w0) (hT:Zna w0) (hb:Bw w0 w) (h:Zdf w w0.heap.size X s) (hp:s.ps.length<=1000000) (hq:s.ss.length<=1000000) (hu:(cut l [32]).1=Zvz) :
  CL 26 #[.pointer (some ⟨X,0,none⟩),str l] w λe w'=>e=.returned (.tuple #[])/\Zdf w' w0.heap.size X ({ s with side:=(parseI (cut l [32]).2.1).getD 0 })/\Bw w0 w':=by
 have HE:=hdQ he
 have HET:=hdQ hT
 have HLN:=hdQ (Ze3 l 32)
 obtain ⟨TX,tc,P,pc,Q,qc,hX,ho,hr⟩:=h
 have HO:=hdQ ho
 have HR:=hdQ hr
 have HB:=hdQ hb
 have hzw:=hb.size
 have hxl:=ho.lt
 have HCT:=qh (CR 69 #[str l,.string ⟨#[32]⟩] w (.tuple #[.string ⟨#[115,105,100,101]⟩,str (cut l [32]).2.1,.bool (cut l [32]).2.2])) (by have:=Zlq l 32 w hl (he.step hb);rw [hu] at this;exact this)
 have HPI:=qh (∀ wx,Bw w0 wx->CR 72 #[str (cut l [32]).2.1] wx (.tuple #[.int .i64 ((parseI (cut l [32]).2.1).getD 0),.bool (parseI (cut l [32]).2.1).isSome])) (λwx hb=>Zef (cut l [32]).2.1 wx (by have:=HLN.out;omega) (HE.out.step hb))
 clear hu he hT hb ho hr HLN
 generalize parseI (cut l [32]).2.1=oi at *
 generalize (cut l [32]).2.1=v at *
 generalize (cut l [32]).2.2=fd at *
 generalize oi.getD 0=iv at *
 go_enter Tryz.func26,Tryz.ntmps26
 go_wp2_with fail
 refine HCT.out.mono ?_
 rintro e w1 ⟨rfl,hb1⟩
 have hz1:=hb1.size
 have HB1:=qh (Bw w0 w1) (Below.step hb1 HB.out hzw)
 have HO1:=qh (Own w1 X 30 (cS s TX tc P pc Q qc)) (Own.step hb1 HO.out)
 have HR1:=qh (SceneR w1 w0.heap.size [X] s TX tc P pc Q qc) (HR.out.step hb1)
 clear hb1 HO HR
 go_wp2_with fail
 refine (HPI.out _ HB1.out).mono ?_
 rintro e w2 ⟨rfl,hb2⟩
 have hz2:=hb2.size
 have HO2:=qh (Own w2 X 30 (cS s TX tc P pc Q qc)) (Own.step hb2 HO1.out)
 have HB2:=qh (Bw w0 w2) (Below.step hb2 HB1.out qo)
 have HR2:=qh (SceneR w2 w0.heap.size [X] s TX tc P pc Q qc) (HR1.out.step hb2)
 have x11:w2.cell? ⟨X,11,none⟩=some (.int .i64 s.side):=HO2.out.cell 11
 have f11:=HO2.out.frozen 11
 have l11:=HO2.out.lt
 clear hb2
 go_wp2_with fail
 go_end0
 exact ⟨rfl,⟨TX,tc,P,pc,Q,qc,hX,HO2.out.set_ 11 (.int .i64 iv),(HR2.out.at_ (OnlyAt.setCell _ _ _ _)).same rfl rfl rfl⟩,(OnlyAt.setCell _ _ _ _).below hX HB2.out⟩
theorem Zl1 {w0 w:World} {X:Nat} {s:EScene} (l:List UInt8) (hl:l.length<=1048576) (he:Env w0) (hT:Zna w0) (hb:Bw w0 w) (h:Zdf w w0.heap.size X s) (hp:s.ps.length<=1000000) (hq:s.ss.length<=1000000) (hu:(cut l [32]).1=wTex) :
  CL 26 #[.pointer (some ⟨X,0,none⟩),str l] w λe w'=>e=.returned (.tuple #[])/\Zdf w' w0.heap.size X (setTex s (parTex (cut l [32]).2.1))/\Bw w0 w':=by
 have HE:=hdQ he
 have HET:=hdQ hT
 have HLN:=hdQ (Ze3 l 32)
 obtain ⟨TX,tc,P,pc,Q,qc,hX,ho,hr⟩:=h
 have HO:=hdQ ho
 have HR:=hdQ hr
 have HB:=hdQ hb
 have hzw:=hb.size
 have hxl:=ho.lt
 have HCT:=qh (CR 69 #[str l,.string ⟨#[32]⟩] w (.tuple #[.string ⟨#[116,101,120,116,117,114,101]⟩,str (cut l [32]).2.1,.bool (cut l [32]).2.2])) (by have:=Zlq l 32 w hl (he.step hb);rw [hu] at this;exact this)
 have HPT:=qh (∀ wx,Bw w0 wx->CL 71 #[str (cut l [32]).2.1] wx (Zjj (parTex (cut l [32]).2.1) wx)) (λwx hb=>Zl5 (cut l [32]).2.1 wx (by have:=HLN.out;omega) (HE.out.step hb))
 clear hu he hT hb ho hr HLN
 rw [Zkb]
 unfold Zjj at HPT
 generalize parTex (cut l [32]).2.1=ot at *
 generalize (cut l [32]).2.1=v at *
 generalize (cut l [32]).2.2=fd at *
 generalize (ot.getD (0,[])).1=lg at *
 generalize (ot.getD (0,[])).2=tx at *
 generalize ot.isSome=bo at *
 go_enter Tryz.func26,Tryz.ntmps26
 go_wp2_with fail
 refine HCT.out.mono ?_
 rintro e w1 ⟨rfl,hb1⟩
 have hz1:=hb1.size
 have HB1:=qh (Bw w0 w1) (Below.step hb1 HB.out hzw)
 have HO1:=qh (Own w1 X 30 (cS s TX tc P pc Q qc)) (Own.step hb1 HO.out)
 have HR1:=qh (SceneR w1 w0.heap.size [X] s TX tc P pc Q qc) (HR.out.step hb1)
 clear hb1 HO HR
 go_wp2_with fail
 refine (HPT.out _ HB1.out).mono ?_
 rintro e w2 ⟨A,c,rfl,hown,hge,hb2⟩
 have hz2:=hb2.size
 obtain ⟨w3,hst,hs,hbk,hs3,e1,e2,e3⟩:=Zap (P:=Tryz.prog) (T:=26) (zs:=[.int .i64 lg,.slice A tx.length c]) (k:=7) (Own.step hb2 HO1.out) zz_texI (by show 9<=12;omega) qr
 have HST:=hdQ hst
 have HAT:=qh (OnlyAt X w2 w3) ⟨hbk,hs3,e1,e2,e3⟩
 have HO3:=qh (Own w3 X 30 (cS { s with log:=lg,tex:=tx } A c P pc Q qc)) hs
 have HB2:=qh (Bw w0 w2) (Below.step hb2 HB1.out qo)
 have HR2:=qh (SceneR w2 w0.heap.size [X] { s with log:=lg,tex:=tx } A c P pc Q qc) (HR1.out.setTex hb2 (by intro z hz;simp at hz;omega) qo lg hown hge)
 clear hb2 hst hs hbk hs3 e1 e2 e3 hown hge
 go_wp2_with (first|(refine Zae rfl 26 (.tmp 35) (.tmp 32) rfl rfl rfl HST.out ?_)|fail)
 go_end0
 exact ⟨rfl,⟨A,c,P,pc,Q,qc,hX,HO3.out,HR2.out.at_ HAT.out⟩,HAT.out.below hX HB2.out⟩
theorem Zod {w0 w:World} {X:Nat} {s:EScene} (l:List UInt8) (hl:l.length<=1048576) (he:Env w0) (hT:Zna w0) (hb:Bw w0 w) (h:Zdf w w0.heap.size X s) (hp:s.ps.length<=1000000) (hq:s.ss.length<=1000000) (h1:(cut l [32]).1≠wCam) (h2:(cut l [32]).1≠wTex) (h3:(cut l [32]).1≠Zvz) (h4:(cut l [32]).1≠Zv0) (h5:(cut l [32]).1≠Zts) :
  CL 26 #[.pointer (some ⟨X,0,none⟩),str l] w λe w'=>e=.returned (.tuple #[])/\Zdf w' w0.heap.size X (s)/\Bw w0 w':=by
 have HE:=hdQ he
 have HET:=hdQ hT
 have HLN:=hdQ (Ze3 l 32)
 obtain ⟨TX,tc,P,pc,Q,qc,hX,ho,hr⟩:=h
 have HO:=hdQ ho
 have HR:=hdQ hr
 have HB:=hdQ hb
 have hzw:=hb.size
 have hxl:=ho.lt
 have HCT:=qh (CR 69 #[str l,.string ⟨#[32]⟩] w (.tuple #[str (cut l [32]).1,str (cut l [32]).2.1,.bool (cut l [32]).2.2])) (Zlq l 32 w hl (he.step hb))
 have k1:((cut l [32]).1==[99,97,109,101,114,97])=false:=by rw [beq_eq_false_iff_ne];exact h1
 have k2:((cut l [32]).1==[116,101,120,116,117,114,101])=false:=by rw [beq_eq_false_iff_ne];exact h2
 have k3:((cut l [32]).1==[115,105,100,101])=false:=by rw [beq_eq_false_iff_ne];exact h3
 have k4:((cut l [32]).1==[115,104,97,100,101,114])=false:=by rw [beq_eq_false_iff_ne];exact h4
 have k5:((cut l [32]).1==[115,117,114,102,97,99,101])=false:=by rw [beq_eq_false_iff_ne];exact h5
 clear h1 h2 h3 h4 h5 he hT hb ho hr HLN
 generalize (cut l [32]).1=u at *
 generalize (cut l [32]).2.1=v at *
 generalize (cut l [32]).2.2=fd at *
 go_enter Tryz.func26,Tryz.ntmps26
 go_wp2_with fail
 refine HCT.out.mono ?_
 rintro e w1 ⟨rfl,hb1⟩
 have hz1:=hb1.size
 have HB1:=qh (Bw w0 w1) (Below.step hb1 HB.out hzw)
 have HO1:=qh (Own w1 X 30 (cS s TX tc P pc Q qc)) (Own.step hb1 HO.out)
 have HR1:=qh (SceneR w1 w0.heap.size [X] s TX tc P pc Q qc) (HR.out.step hb1)
 clear hb1 HO HR
 go_wp2_with fail
 go_end0
 exact ⟨rfl,⟨TX,tc,P,pc,Q,qc,hX,HO1.out,HR1.out⟩,HB1.out⟩
theorem Zlj {w0 w:World} {X:Nat} {s:EScene} (l:List UInt8) (hl:l.length<=1048576) (he:Env w0) (hT:Zna w0) (hb:Bw w0 w) (h:Zdf w w0.heap.size X s) (hp:s.ps.length<=1000000) (hq:s.ss.length<=1000000) (hu:(cut l [32]).1=Zv0) :
  CL 26 #[.pointer (some ⟨X,0,none⟩),str l] w λe w'=>e=.returned (.tuple #[])/\Zdf w' w0.heap.size X ({ s with ps:=s.ps++[(parF (cut l [32]).2.1).1] })/\Bw w0 w':=by
 have HE:=hdQ he
 have HET:=hdQ hT
 have HLN:=hdQ (Ze3 l 32)
 obtain ⟨TX,tc,P,pc,Q,qc,hX,ho,hr⟩:=h
 have HO:=hdQ ho
 have HR:=hdQ hr
 have HB:=hdQ hb
 have hzw:=hb.size
 have hxl:=ho.lt
 have HCT:=qh (CR 69 #[str l,.string ⟨#[32]⟩] w (.tuple #[.string ⟨#[115,104,97,100,101,114]⟩,str (cut l [32]).2.1,.bool (cut l [32]).2.2])) (by have:=Zlq l 32 w hl (he.step hb);rw [hu] at this;exact this)
 have HPS:=qh (∀ wx,Bw w0 wx->CL 73 #[str (cut l [32]).2.1] wx (Zbo (cut l [32]).2.1 wx)) (λwx hb=>I_Parse wx (by have:=HLN.out;omega) (HET.out.step hb))
 clear hu he hT hb ho hr HLN
 unfold Zbo at HPS
 generalize parF (cut l [32]).2.1=pr at *
 generalize (cut l [32]).2.1=v at *
 generalize (cut l [32]).2.2=fd at *
 generalize pr.1=p at *
 generalize pr.2=po at *
 go_enter Tryz.func26,Tryz.ntmps26
 go_wp2_with fail
 refine HCT.out.mono ?_
 rintro e w1 ⟨rfl,hb1⟩
 have hz1:=hb1.size
 have HB1:=qh (Bw w0 w1) (Below.step hb1 HB.out hzw)
 have HO1:=qh (Own w1 X 30 (cS s TX tc P pc Q qc)) (Own.step hb1 HO.out)
 have HR1:=qh (SceneR w1 w0.heap.size [X] s TX tc P pc Q qc) (HR.out.step hb1)
 clear hb1 HO HR
 go_wp2_with fail
 refine (HPS.out _ HB1.out).mono ?_
 rintro e w2 ⟨NA,nc,AA,ac,rfl,hpm,hb2⟩
 have hz2:=hb2.size
 have HBV:=hdQ hb2
 have HPM:=hdQ hpm
 have HO2:=qh (Own (w2.alloc (.cells #[.slice NA p.1.length nc,.slice AA p.2.length ac] 62)) X 30 (cS s TX tc P pc Q qc)) (Own.alloc (Own.step hb2 HO1.out) _)
 have HBX:=qh (Own (w2.alloc (.cells #[.slice NA p.1.length nc,.slice AA p.2.length ac] 62)) w2.heap.size 62 [.slice NA p.1.length nc,.slice AA p.2.length ac]) (Own.new w2 _ #[_,_])
 have HB2:=qh (Bw w0 (w2.alloc (.cells #[.slice NA p.1.length nc,.slice AA p.2.length ac] 62))) ((Below.step hb2 HB1.out qo).alloc qo _)
 have hv2:Bw w2 (w2.alloc (.cells #[.slice NA p.1.length nc,.slice AA p.2.length ac] 62)):=(Below.refl _ _).alloc (Nat.le_refl _) _
 have HV2:=hdQ hv2
 obtain ⟨cs,lo,hi,g1,g2,g3,g4,g5⟩:=HR1.out.ps
 have HG1:=hdQ g1
 have HG2:=hdQ g2
 have HG3:=hdQ g3
 have HG4:=hdQ g4
 have HG5:=hdQ g5
 have HGW:=qh (Zaj (w2.alloc (.cells #[.slice NA p.1.length nc,.slice AA p.2.length ac] 62)) w0.heap.size 62 2 P s.ps.length pc cs) ((Zaj.step hb2 g1).alloc _)
 have hXP:X∉gOf P:=g5 X qs
 have hx1:X<w1.heap.size:=HO1.out.lt
 have hbk0:=HB1.out.size
 clear hb2 hpm g1 g2 g3 g4 g5 hv2
 go_wp2_with fail
 generalize hWG:w2.alloc (.cells #[.slice NA p.1.length nc,.slice AA p.2.length ac] 62)=wa at *
 have hza:w2.heap.size<wa.heap.size:=by rw [<- hWG];simp
 clear hWG
 have x9:wa.cell? ⟨X,9,none⟩=some (.slice P s.ps.length pc):=HO2.out.cell 9
 have f9:=HO2.out.frozen 9
 have y0:wa.cell? ⟨w2.heap.size,0,none⟩=some (.slice NA p.1.length nc):=HBX.out.cell 0
 have y1:wa.cell? ⟨w2.heap.size,1,none⟩=some (.slice AA p.2.length ac):=HBX.out.cell 1
 have hxa:=HO2.out.lt
 have hya:=HBX.out.lt
 refine Zbc (S:=(λw'=>w'.cell? ⟨X,9,none⟩=some (.slice P s.ps.length pc)/\w'.frozen? ⟨X,9,none⟩=false/\w'.cell? ⟨w2.heap.size,0,none⟩=some (.slice NA p.1.length nc)/\w'.cell? ⟨w2.heap.size,1,none⟩=some (.slice AA p.2.length ac))) 10 kr (by (try dsimp only);refine ⟨?_, ?_, ?_, ?_⟩<;>(go_simp;done)) (λhHeld=>?_)
 refine tkM 0 ?_
 refine tkM 1 ?_
 refine tkM 2 ?_
 refine tkM 3 ?_
 refine tkM 4 ?_
 refine tkM 5 ?_
 refine Zaa (i:=6) rfl kr (λK6 hK6=>?_)
 go_simp
 refine hK6.out _ _ (λ_=>by (try dsimp only);refine ⟨?_, ?_, ?_, ?_⟩<;>(go_simp;done)) (λhHeld6=>?_)
 have hX6:=hHeld6 qd
 refine Zaa (i:=7) rfl kr (λK7 hK7=>?_)
 (refine Zcs qr _ _ 27 qr (w0.heap.size) 62 (.agg #[.slice none 0 0,.slice none 0 0]) 2 48 Tryz.underlying27 T.infoProgA rfl qd (xs:=cs) qr ?_ (ys:=[.slice NA p.1.length nc,.slice AA p.2.length ac]) qr ?_ (Znr _ _ _ _ _ _) ?_ ?_ ?_ ?_;(exact (gwx HGW.out));(exact (ltt 1));(unfold maxLen;omega);(omega);(first|omega|(simp<;>omega));rintro P7 k7 x7 gA7)
 have hsa:=gA7.2.2.2.1
 (try simp at hsa)
 have HSR:=qh (SceneR x7 w0.heap.size [X] { s with ps:=s.ps++[p] } TX tc P7 k7 Q qc) (HR1.out.prog (by intro z hz;simp at hz;omega) HG1.out HG2.out HG3.out HG4.out HG5.out qo HBV.out HPM.out (Below.trans HV2.out bll) gA7)
 have ho2:Own x7 X 30 (cS s TX tc P pc Q qc):=(gA7.2.2.1.block X (by simp;omega) (by cases P<;>simp_all [gOf])).trans (Own.alloc (Own.drew HO2.out) _)
 have hb2:Bw w0 x7:=Below.trans bll gA7.2.1
 have HO2':=hdQ ho2
 have HB2':=hdQ hb2
 have k9:x7.cell? ⟨X,9,none⟩=some (.slice P s.ps.length pc):=ho2.cell 9
 have kf:=ho2.frozen 9
 have kl:=ho2.lt
 have hfar:=(Za8.far gA7 (b:=w2.heap.size) (by simp;omega) (λe=>by have:=HG1.out.lt _ e;omega)).1
 have m0:x7.cell? ⟨w2.heap.size,0,none⟩=some (.slice NA p.1.length nc):=by rw [hfar];go_simp
 have m1:x7.cell? ⟨w2.heap.size,1,none⟩=some (.slice AA p.2.length ac):=by rw [hfar];go_simp
 clear gA7 ho2 hb2 hfar
 refine hK7.out _ _ (λ_=>by (try dsimp only);refine ⟨?_, ?_, ?_, ?_⟩<;>(go_simp;done)) (λhHeld7=>?_)
 have hX7:=hHeld7 qd
 refine Zaa (i:=8) rfl kr (λK8 hK8=>?_)
 go_simp
 refine hK8.out _ _ (λ_=>hX7) (λhHeld8=>?_)
 have hX8:=hHeld8 qd
 refine Zaa (i:=9) rfl kr (λK9 hK9=>?_)
 go_simp
 refine hK9.out _ _ (λ_=>hX8) (λhHeld9=>?_)
 have hX9:=hHeld9 qd
 refine Zaa (i:=10) rfl kr (λK10 hK10=>?_)
 go_simp
 refine hK10.out _ _ (λh=>absurd rfl h) (λhHeld10=>?_)
 refine Zbd kr ?_ _
 have hfin:Own (x7.setCell ⟨X,9,none⟩ (.slice P7 (s.ps.length+1) k7)) X 30 (cS { s with ps:=s.ps++[p] } TX tc P7 k7 Q qc):=by rw [<- cS_ps];exact HO2'.out.set_ 9 _
 have HF:=hdQ hfin
 clear hfin hX6 hX7 hX8 hX9 hHeld
 go_wp2_with fail
 go_end0
 exact ⟨rfl,⟨TX,tc,P7,k7,Q,qc,hX,HF.out,HSR.out.at_ (OnlyAt.setCell _ _ _ _)⟩,(OnlyAt.setCell _ _ _ _).below hX HB2'.out⟩
theorem Zlh {w0 w:World} {X:Nat} {s:EScene} (l:List UInt8) (hl:l.length<=1048576) (he:Env w0) (hT:Zna w0) (hb:Bw w0 w) (h:Zdf w w0.heap.size X s) (hp:s.ps.length<=1000000) (hq:s.ss.length<=1000000) (hu:(cut l [32]).1=Zts) :
  CL 26 #[.pointer (some ⟨X,0,none⟩),str l] w λe w'=>e=.returned (.tuple #[])/\Zdf w' w0.heap.size X ({ s with ss:=s.ss++[parSurf (splitB 32 (cut l [32]).2.1)] })/\Bw w0 w':=by
 have HE:=hdQ he
 have HET:=hdQ hT
 have HLN:=hdQ (Ze3 l 32)
 obtain ⟨TX,tc,P,pc,Q,qc,hX,ho,hr⟩:=h
 have HO:=hdQ ho
 have HR:=hdQ hr
 have HB:=hdQ hb
 have hzw:=hb.size
 have hxl:=ho.lt
 have HCT:=qh (CR 69 #[str l,.string ⟨#[32]⟩] w (.tuple #[.string ⟨#[115,117,114,102,97,99,101]⟩,str (cut l [32]).2.1,.bool (cut l [32]).2.2])) (by have:=Zlq l 32 w hl (he.step hb);rw [hu] at this;exact this)
 have HPF:=qh (∀ wx,Bw w0 wx->CR 74 #[str (cut l [32]).2.1] wx (.agg ⟨eSurf (parSurf (splitB 32 (cut l [32]).2.1))⟩)) (λwx hb=>Zl3 _ wx (by have:=HLN.out;omega) (HE.out.step hb))
 clear hu he hT hb ho hr HLN
 generalize parSurf (splitB 32 (cut l [32]).2.1)=x at *
 generalize (cut l [32]).2.1=v at *
 generalize (cut l [32]).2.2=fd at *
 go_enter Tryz.func26,Tryz.ntmps26
 go_wp2_with fail
 refine HCT.out.mono ?_
 rintro e w1 ⟨rfl,hb1⟩
 have hz1:=hb1.size
 have HB1:=qh (Bw w0 w1) (Below.step hb1 HB.out hzw)
 have HO1:=qh (Own w1 X 30 (cS s TX tc P pc Q qc)) (Own.step hb1 HO.out)
 have HR1:=qh (SceneR w1 w0.heap.size [X] s TX tc P pc Q qc) (HR.out.step hb1)
 clear hb1 HO HR
 go_wp2_with fail
 have x10:w1.cell? ⟨X,10,none⟩=some (.slice Q s.ss.length qc):=HO1.out.cell 10
 have f10:=HO1.out.frozen 10
 have hx1:=HO1.out.lt
 refine Zbc (S:=(λw'=>w'.cell? ⟨X,10,none⟩=some (.slice Q s.ss.length qc)/\w'.frozen? ⟨X,10,none⟩=false)) 11 kr (by (try dsimp only);refine ⟨?_, ?_⟩<;>(go_simp;done)) (λhHeld=>?_)
 refine tkM 0 ?_
 refine tkM 1 ?_
 refine tkM 2 ?_
 refine tkM 3 ?_
 refine tkM 4 ?_
 refine tkM 5 ?_
 refine Zaa (i:=6) rfl kr (λK6 hK6=>?_)
 go_simp
 (go_at_call 74;(with_reducible refine (HPF.out _ bll).mono ?_);rintro e w2 ⟨rfl,hb2⟩)
 have hz2:=hb2.size
 (try simp at hz2)
 have HO2:=qh (Own w2 X 30 (cS s TX tc P pc Q qc)) (Own.step hb2 (owx HO1.out))
 have HB2:=bh w0 hb2
 have hr1:SceneR w1.drew w0.heap.size [X] s TX tc P pc Q qc:=HR1.out.step bll
 have HR2:=qh (SceneR w2 w0.heap.size [X] s TX tc P pc Q qc) (hr1.step hb2)
 have z10:w2.cell? ⟨X,10,none⟩=some (.slice Q s.ss.length qc):=HO2.out.cell 10
 have zf10:=HO2.out.frozen 10
 have hx2:=HO2.out.lt
 clear hb2 hr1
 try go_wp2_with fail
 refine hK6.out _ _ (λ_=>(by (try dsimp only);refine ⟨?_, ?_⟩<;>(go_simp;done))) (λhHeld6=>?_)
 have hX6:=hHeld6 qd
 refine Zaa (i:=7) rfl kr (λK7 hK7=>?_)
 refine Zgf rfl _ _ rfl rfl (Zjw x _) ?_
 refine hK7.out _ _ (λ_=>(by (try dsimp only);refine ⟨?_, ?_⟩<;>(go_simp;done))) (λhHeld7=>?_)
 have hX7:=hHeld7 qd
 refine Zaa (i:=8) rfl kr (λK8 hK8=>?_)
 (refine Zcs qr _ _ 28 qr (w0.heap.size) 45 (.agg ⟨z26⟩) 26 208 Tryz.underlying28 T.infoSurf3 rfl qd (xs:=Zcz s.ss) qr ?_ (ys:=eSurf x) qr ?_ (Zgo _) ?_ ?_ ?_ ?_;(exact (gwx HR2.out.ss));(exact (ltt 1));(unfold maxLen;omega);(omega);(first|omega|(simp<;>omega));rintro P7 k7 x7 gA7)
 have hsa:=gA7.2.2.2.1
 (try simp at hsa)
 have HSR:=qh (SceneR x7 w0.heap.size [X] { s with ss:=s.ss++[x] } TX tc P pc P7 k7) ((HR2.out.step bll).surf (by intro z hz;simp at hz;subst hz;first|omega|(simp<;>omega)) gA7)
 have hXQ:X∉gOf Q:=λq=>HR2.out.ssz X q qs
 have ho2:Own x7 X 30 (cS s TX tc P pc Q qc):=(gA7.2.2.1.block X (by simp;omega) (by cases Q<;>simp_all [gOf])).trans (Own.alloc HO2.out _)
 have hb2:Bw w0 x7:=Below.trans bll gA7.2.1
 have HO2':=hdQ ho2
 have HB2':=hdQ hb2
 have k10:x7.cell? ⟨X,10,none⟩=some (.slice Q s.ss.length qc):=ho2.cell 10
 have kf:=ho2.frozen 10
 have kl:=ho2.lt
 clear gA7 ho2 hb2
 refine hK8.out _ _ (λ_=>(by (try dsimp only);refine ⟨?_, ?_⟩<;>(go_simp;done))) (λhHeld8=>?_)
 have hX8:=hHeld8 qd
 refine Zaa (i:=9) rfl kr (λK9 hK9=>?_)
 go_simp
 refine hK9.out _ _ (λ_=>hX8) (λhHeld9=>?_)
 have hX9:=hHeld9 qd
 refine Zaa (i:=10) rfl kr (λK10 hK10=>?_)
 go_simp
 refine hK10.out _ _ (λ_=>hX9) (λhHeld10=>?_)
 have hX10:=hHeld10 qd
 refine Zaa (i:=11) rfl kr (λK11 hK11=>?_)
 go_simp
 refine hK11.out _ _ (λh=>absurd rfl h) (λhHeld11=>?_)
 refine Zbd kr ?_ _
 have hfin:Own (x7.setCell ⟨X,10,none⟩ (.slice P7 (s.ss.length+1) k7)) X 30 (cS { s with ss:=s.ss++[x] } TX tc P pc P7 k7):=by rw [<- cS_ss];exact HO2'.out.set_ 10 _
 have HF:=hdQ hfin
 clear hfin hX6 hX7 hX8 hX9 hX10 hHeld
 go_wp2_with fail
 go_end0
 exact ⟨rfl,⟨TX,tc,P,pc,P7,k7,hX,HF.out,HSR.out.at_ (OnlyAt.setCell _ _ _ _)⟩,(OnlyAt.setCell _ _ _ _).below hX HB2'.out⟩
theorem Zvg {w0 w:World} {X:Nat} {s:EScene} (l:List UInt8) (hl:l.length<=1048576) (he:Env w0) (hT:Zna w0) (hb:Bw w0 w) (h:Zdf w w0.heap.size X s) (hp:s.ps.length<=1000000) (hq:s.ss.length<=1000000) :
  CL 26 #[.pointer (some ⟨X,0,none⟩),str l] w λe w'=>e=.returned (.tuple #[])/\Zdf w' w0.heap.size X (updI s l)/\Bw w0 w':=by
 unfold updI
 dsimp only
 split
 ·exact Zl2 l hl he hT hb h hp hq ‹_›
 split
 ·exact Zl1 l hl he hT hb h hp hq ‹_›
 split
 ·exact Zli l hl he hT hb h hp hq ‹_›
 split
 ·exact Zlj l hl he hT hb h hp hq ‹_›
 split
 ·exact Zlh l hl he hT hb h hp hq ‹_›
 ·exact Zod l hl he hT hb h hp hq ‹_› ‹_› ‹_› ‹_› ‹_›
theorem Zut {l z:List UInt8} {q:List (List UInt8)} (h:splitB 10 l=q++[z]):linesT l=if z=[] then q else q++[z]:=by
 unfold linesT
 rw [h]
 simp
theorem RS.head {w:World} {A:OA} {n m c:Nat} {xs:List Value} (h:RS w 1 A n c xs) (hm:m<=n):RS w 1 A m c (xs.take m):=by
 obtain ⟨hl,A0,c0,hv,hn,hc,h0⟩:=h
 simp only [Value.slice.injEq] at hv
 obtain ⟨rfl,_,rfl⟩:=hv
 refine ⟨by rw [List.length_take];omega,A,c,rfl,qo,hc,λhp=>?_⟩
 obtain ⟨b,o,hA,h1,h2,h3⟩:=h0 qo
 exact ⟨b,o,hA,h1,h2,λj hj=>by rw [h3 j qo,List.getElem?_take_of_lt qo]⟩
theorem Zqn (l:List UInt8) (w:World) (hlim:l.length<=1048576) :
  CL 25 #[str l] w (Zgq (linesT l) w):=by
 obtain ⟨ps,hps⟩:=qv (splitB 10 l)
 have hpos:=Zmj 10 l
 have hlen:=Zeb 10 l
 have HSA:=qh (∀ wx,CL 68 #[str l,.string ⟨#[10]⟩] wx (Zgq ps wx)) (λwx=>by have:=Zfs 10 l wx hlim;rwa [hps] at this)
 obtain ⟨q,z,hqz⟩:∃ q z,ps=q++[z]:=by
  rw [hps] at hpos
  refine ⟨ps.dropLast,ps.getLast (by rintro rfl;cases hpos),(List.dropLast_concat_getLast _).symm⟩
 have hL:=Zut (hps.trans hqz)
 have HL:=hdQ hL
 have hpl:ps.length=q.length+1:=by rw [hqz];simp
 have hql:q.length<=1048576:=by rw [hps] at hlen;omega
 clear hpos hlen hps hL
 go_enter Tryz.func25,Tryz.ntmps25
 go_wp2_with fail
 refine (HSA.out _).mono ?_
 rintro e w1 ⟨P,pc,rfl,hrs,hpg,hb⟩
 rw [hpl]
 rw [hpl] at hrs
 have HRS:=hdQ hrs
 have HPG:=hdQ hpg
 have HB:=hdQ hb
 obtain ⟨b,off,rfl,hbh,hcell⟩:=hrs.open_.2.2 qo
 have c1:w1.cell? ⟨b,off+q.length,none⟩=some (str z):=by rw [hcell q.length qo,hqz];simp
 have hw1:IntKind.i64.wrap (((q.length+1:Nat):Int)-1)=q.length:=by rw [show ((q.length+1:Nat):Int)-1=q.length by omega];exact IntWalk.i64_in _ qo
 have hw2:IntKind.i64.wrap ((q.length:Int)+1-1)=q.length:=by rw [show (q.length:Int)+1-1=q.length by omega];exact IntWalk.i64_in _ qo
 have i2:(q.length:Int)<(q.length:Int)+1:=qo
 have hpc:=hrs.open_.1
 clear hcell hrs hpg hb hpl HSA
 by_cases hz:z=[]
 ·have HL2:=qh (linesT l=q) (by rw [HL.out,if_pos hz])
  have HR2:=qh (RS w1 1 (some ⟨b,off,none⟩) q.length pc (Zck q)) (by have:=RS.head HRS.out (m:=q.length) qo;rw [hqz] at this;simpa using this)
  subst hz
  go_wp2_with fail
  go_ret
  rw [HL2.out]
  exact ⟨_,_,rfl,HR2.out,HPG.out,HB.out⟩
 ·have HL2:=qh (linesT l=q++[z]) (by rw [HL.out,if_neg hz])
  have hzb:z.isEmpty=false:=by cases z with|nil=>exact absurd rfl hz|cons=>rfl
  go_wp2_with fail
  go_ret
  rw [HL2.out]
  have hql2:(q++[z]).length=q.length+1:=qs
  exact ⟨_,_,by rw [hql2];rfl,by rw [hql2,<- hqz];exact HRS.out,HPG.out,HB.out⟩
theorem byte_cases (x:UInt8) (k:Nat):((97:Int)<=x.toNat/\(x.toNat:Int)<=122)∨((x.toNat:Int)<97/\k=0)∨((x.toNat:Int)<97/\0<k/\(x.toNat:Int)<48)∨((x.toNat:Int)<97/\0<k/\(57:Int)<x.toNat)∨((x.toNat:Int)<97/\0<k/\(48:Int)<=x.toNat/\(x.toNat:Int)<=57)∨((122:Int)<x.toNat/\k=0)∨((122:Int)<x.toNat/\0<k):=qo
theorem Zta {l:List UInt8} {k:Nat} (h:k<l.length) (hi:Zd4 l k=true) (hx:(97<=l[k].toNat/\l[k].toNat<=122)∨(0<k/\48<=l[k].toNat/\l[k].toNat<=57)):Zd4 l (k+1)=true:=by
 rw [Zgm h,hi]
 unfold Zhq Zk0
 rcases hx with hx|⟨h1,h2⟩
 ·simp [hx]
 ·simp [h2];omega
theorem Zkt {l:List UInt8} {k:Nat} (h:k<l.length) (h1:¬ (97<=l[k].toNat/\l[k].toNat<=122)) (h2:¬ (0<k/\48<=l[k].toNat/\l[k].toNat<=57)):Zai l=false:=by
 refine Zuv h ?_
 unfold Zhq Zk0
 simp only [Bool.or_eq_false_iff,Bool.and_eq_false_iff,decide_eq_false_iff_not]
 refine ⟨h1, ?_⟩
 by_cases hk:k=0
 ·right;simpa using hk
 ·left;intro h3;exact h2 ⟨qo,h3⟩
theorem id_end {l:List UInt8} (h:Zd4 l l.length=true):Zai l=decide (1<=l.length/\l.length<=8):=by unfold Zai;rw [h];rfl
theorem Zfe {l:List UInt8} (w:World) (hl:l.length<=maxLen) :
  CL 183 #[str l] w λe w'=>e=.returned (.bool (Zai l))/\w=w':=by
 unfold maxLen at hl
 go_enter Tryz.func183,Tryz.ntmps183
 go_wp2_with fail
 go_loop [3] (λi=>∃ k:Nat,k<=l.length/\i=.int .i64 k/\Zd4 l k=true) (λi=>l.length-(RowKit.intOf i).toNat)
 case atStart=>exact ⟨0,Nat.zero_le _,rfl,rfl⟩
 case round =>
  obtain ⟨k,hk,rfl,hi⟩:=hrel
  have HI:=hdQ hi
  clear hi
  by_cases hlt:k<l.length
  ·obtain ⟨x,hx⟩:=qv (l[k])
   have hat:∀ hh:k<ByteArray.size ⟨l.toArray⟩,({ data:=l.toArray }:ByteArray)[k]'hh=x:=λhh=>hx
   have HX:=hdQ hx
   have i2:(k:Int)<l.length:=qo
   clear hx
   rcases byte_cases x k with ⟨h1,h2⟩|⟨h1,rfl⟩|⟨h1,h2,h3⟩|⟨h1,h2,h3⟩|⟨h1,h2,h3,h4⟩|⟨h1,rfl⟩|⟨h1,h2⟩
   ·go_wp2_with fail
    go_round
    case rel=>exact ⟨k+1,qo,qg,Zta hlt HI.out (by rw [HX.out];omega)⟩
    case measure=>exact qn
   ·have n1:¬ (97:Int)<=x.toNat:=by omega
    go_wp2_with fail
    go_ret
    exact ⟨Zaf (Zkt hlt (by rw [HX.out];omega) qo).symm,rfl⟩
   ·have n1:¬ (97:Int)<=x.toNat:=by omega
    have k0:¬ (k:Int)=0:=qo
    go_wp2_with fail
    go_ret
    exact ⟨Zaf (Zkt hlt (by rw [HX.out];omega) (by rw [HX.out];omega)).symm,rfl⟩
   ·have n1:¬ (97:Int)<=x.toNat:=by omega
    have n2:¬ (x.toNat:Int)<48:=qo
    have k0:¬ (k:Int)=0:=qo
    go_wp2_with fail
    go_ret
    exact ⟨Zaf (Zkt hlt (by rw [HX.out];omega) (by rw [HX.out];omega)).symm,rfl⟩
   ·have n1:¬ (97:Int)<=x.toNat:=by omega
    have n2:¬ (x.toNat:Int)<48:=qo
    have n3:¬ (57:Int)<x.toNat:=qo
    have k0:¬ (k:Int)=0:=qo
    go_wp2_with fail
    go_round
    case rel=>exact ⟨k+1,qo,qg,Zta hlt HI.out (by rw [HX.out];omega)⟩
    case measure=>exact qn
   ·have n1:(97:Int)<=x.toNat:=by omega
    have n2:¬ (x.toNat:Int)<=122:=qo
    go_wp2_with fail
    go_ret
    exact ⟨Zaf (Zkt hlt (by rw [HX.out];omega) qo).symm,rfl⟩
   ·have n1:(97:Int)<=x.toNat:=by omega
    have n2:¬ (x.toNat:Int)<=122:=qo
    have n3:¬ (x.toNat:Int)<48:=qo
    have n4:(57:Int)<x.toNat:=qo
    have k0:¬ (k:Int)=0:=qo
    go_wp2_with fail
    go_ret
    exact ⟨Zaf (Zkt hlt (by rw [HX.out];omega) (by rw [HX.out];omega)).symm,rfl⟩
  ·obtain rfl:k=l.length:=by omega
   have HE:=hdQ (id_end HI.out)
   go_wp2_with (first|(go_at_call 119;refine (S_in _ _ _ _).mono ?_;rintro e w' ⟨rfl,rfl⟩)|fail)
   go_ret
   exact ⟨Zaf (by rw [HE.out];unfold inB;rw [Bool.eq_iff_iff];simp;omega),rfl⟩
theorem Zdt (w:World) (s:ByteArray) (p:Nat):Bw w (w.iter s p):=(Below.refl _ _).alloc (Nat.le_refl _) _
theorem Zhf {l:List UInt8} (w:World) (hl:l.length<=maxLen) :
  CR 154 #[str l] w ((.bool (Zai l))):=by
 unfold maxLen at hl
 go_enter Tryz.func154,Tryz.ntmps154
 go_wp2_with fail
 go_loopw [2] (λr wr=>∃ k:Nat,k<=l.length/\wr=w.iter ⟨l.toArray⟩ k/\Zd4 l k=true) (λ_ wr=>l.length-wr.iterPos w.heap.size)
 case atStart=>exact ⟨0,Nat.zero_le _,rfl,rfl⟩
 case round =>
  obtain ⟨k,hk,rfl,hi⟩:=hrel
  have HI:=hdQ hi
  clear hi
  by_cases hlt:k<l.length
  ·obtain ⟨x,hx⟩:=qv (l[k])
   have hlt':k<ByteArray.size ⟨l.toArray⟩:=hlt
   have hat:({ data:=l.toArray }:ByteArray)[k]'hlt'=x:=hx
   have HX:=hdQ hx
   have i2:(k:Int)<l.length:=qo
   by_cases h128:x.toNat<128
   ·have hnx:∀ ty,(Instr.next (.pointer (some ⟨w.heap.size,0,none⟩)) true ty).run Tryz.prog (w.iter ⟨l.toArray⟩ k)=.ok (.tuple #[.bool true,.int .i64 k,.int .i32 x.toNat]) (w.iter ⟨l.toArray⟩ (k+1)):=λty=>by
     rw [run_next_ascii w ⟨l.toArray⟩ k ty hlt' (by rw [hat];exact h128),hat]
    clear hx hat hlt'
    rcases byte_cases x k with ⟨h1,h2⟩|⟨h1,rfl⟩|⟨h1,h2,h3⟩|⟨h1,h2,h3⟩|⟨h1,h2,h3,h4⟩|⟨h1,rfl⟩|⟨h1,h2⟩
    ·go_wp2_with fail
     all_goals
      go_roundw
      case rel=>exact ⟨k+1,qo,rfl,Zta hlt HI.out (by rw [HX.out];omega)⟩
      case measure=>simp;omega
    ·have n1:¬ (97:Int)<=x.toNat:=by omega
     go_wp2_with fail
     all_goals
      go_ret
      exact ⟨Zaf (Zkt hlt (by rw [HX.out];omega) qo).symm,Zdt _ _ _⟩
    ·have n1:¬ (97:Int)<=x.toNat:=by omega
     have n2:¬ (48:Int)<=x.toNat:=qo
     have k0:¬ (k:Int)=0:=qo
     go_wp2_with fail
     all_goals
      go_ret
      exact ⟨Zaf (Zkt hlt (by rw [HX.out];omega) (by rw [HX.out];omega)).symm,Zdt _ _ _⟩
    ·have n1:¬ (97:Int)<=x.toNat:=by omega
     have n2:(48:Int)<=x.toNat:=qo
     have n3:¬ (x.toNat:Int)<=57:=qo
     have k0:¬ (k:Int)=0:=qo
     go_wp2_with fail
     all_goals
      go_ret
      exact ⟨Zaf (Zkt hlt (by rw [HX.out];omega) (by rw [HX.out];omega)).symm,Zdt _ _ _⟩
    ·have n1:¬ (97:Int)<=x.toNat:=by omega
     have k0:¬ (k:Int)=0:=qo
     go_wp2_with fail
     all_goals
      go_roundw
      case rel=>exact ⟨k+1,qo,rfl,Zta hlt HI.out (by rw [HX.out];omega)⟩
      case measure=>simp;omega
    ·have n1:(97:Int)<=x.toNat:=by omega
     have n2:¬ (x.toNat:Int)<=122:=qo
     have n3:(48:Int)<=x.toNat:=qo
     have n4:¬ (x.toNat:Int)<=57:=qo
     go_wp2_with fail
     all_goals
      go_ret
      exact ⟨Zaf (Zkt hlt (by rw [HX.out];omega) qo).symm,Zdt _ _ _⟩
    ·have n1:(97:Int)<=x.toNat:=by omega
     have n2:¬ (x.toNat:Int)<=122:=qo
     have n3:(48:Int)<=x.toNat:=qo
     have n4:¬ (x.toNat:Int)<=57:=qo
     have k0:¬ (k:Int)=0:=qo
     go_wp2_with fail
     all_goals
      go_ret
      exact ⟨Zaf (Zkt hlt (by rw [HX.out];omega) (by rw [HX.out];omega)).symm,Zdt _ _ _⟩
   ·obtain ⟨d1,d2⟩:=decode_high ⟨l.toArray⟩ k hlt' (by rw [hat];omega)
    obtain ⟨r,hr⟩:=qv ((Utf8.decode ⟨l.toArray⟩ k).1)
    obtain ⟨q,hq⟩:=qv ((Utf8.decode ⟨l.toArray⟩ k).2)
    have hnx:∀ ty,(Instr.next (.pointer (some ⟨w.heap.size,0,none⟩)) true ty).run Tryz.prog (w.iter ⟨l.toArray⟩ k)=.ok (.tuple #[.bool true,.int .i64 k,.int .i32 r]) (w.iter ⟨l.toArray⟩ (k+q)):=λty=>by
     rw [run_next_any w ⟨l.toArray⟩ k ty hlt',hr,hq]
    rw [hr] at d1
    clear hx hat hlt' hr hq d2
    have HN:=hdQ (Zkt hlt (by rw [HX.out];omega) (by rw [HX.out];omega))
    have n1:(97:Int)<=r:=qo
    have n2:¬ (r:Int)<=122:=qo
    have n3:(48:Int)<=r:=qo
    have n4:¬ (r:Int)<=57:=qo
    go_wp2_with fail
    all_goals
     go_ret
     exact ⟨Zaf HN.out.symm,Zdt _ _ _⟩
  ·have hnx:∀ ty,(Instr.next (.pointer (some ⟨w.heap.size,0,none⟩)) true ty).run Tryz.prog (w.iter ⟨l.toArray⟩ k)=.ok (.tuple #[.bool false]) (w.iter ⟨l.toArray⟩ k):=λty=>run_next_end w ⟨l.toArray⟩ k ty hlt
   obtain rfl:k=l.length:=qo
   have HE:=hdQ (id_end HI.out)
   go_wp2_with fail
   all_goals
    go_ret
    exact ⟨Zaf (by rw [HE.out];rw [Bool.eq_iff_iff];simp;omega),Zdt _ _ _⟩
theorem op_cases (op:Int):op=1∨op=2∨op=8∨op=3∨op=4∨op=5∨op=6∨op=7∨(op<1∨8<op):=qo
theorem emp_cases (l:List UInt8):(l=[]/\l.isEmpty=true)∨(l≠[]/\l.isEmpty=false):=by cases l<;>simp
theorem fld (op:Int) (name:List UInt8) (num:Int) (l:List Int):Zbr (op,name,num,l)=((if Za0 op then Zai name else decide (name=[]))&&(if op=1 then inB num 0 2559999 else decide (num=0))&&Zay op l.length):=rfl
theorem sh1 (n:Nat):Zay 1 n=decide (n=0):=by simp [Zay]
theorem sh2 (n:Nat):Zay 2 n=decide (n=0):=by simp [Zay]
theorem sh3 (n:Nat):Zay 3 n=decide (n=1):=by simp [Zay]
theorem sh4 (n:Nat):Zay 4 n=decide (n=2):=by simp [Zay]
theorem sh5 (n:Nat):Zay 5 n=decide (n=2):=by simp [Zay]
theorem sh6 (n:Nat):Zay 6 n=decide (n=2):=by simp [Zay]
theorem sh7 (n:Nat):Zay 7 n=decide (n=2):=by simp [Zay]
theorem sh8 (n:Nat):Zay 8 n=decide (n<=3):=by simp [Zay]
theorem sh9 {op:Int} (h:op<1∨8<op) (n:Nat):Zay op n=false:=by
 unfold Zay
 rw [if_neg qo,if_neg qo,if_neg qo,if_neg qo]
theorem nm9 {op:Int} (h:op<1∨8<op):Za0 op=false:=by unfold Za0;simp;omega
theorem beq_cast (a b:Nat):((a:Int)==(b:Int))=decide (a=b):=by rw [Bool.eq_iff_iff];simp;omega
theorem Zex {n:Nat} (m:Nat):decide (n=m)=((n:Int)==(m:Int)):=(beq_cast n m).symm
theorem Zxe {n:Nat} (m:Nat):decide (n<=m)=decide ((n:Int)<=(m:Int)):=by rw [Bool.eq_iff_iff];simp
theorem Zfl (k:Nat) (op:Int) (name:List UInt8) (num:Int) (l:List Int):Zb1 k (op,name,num,l)=(Zbr (op,name,num,l)&&Zd8 k l):=rfl
theorem Zm4 {k:Nat} {l:List Int}:Zd8 k l=Zga l 0 ((k:Int)-1):=rfl
abbrev Zg4 (op:Int) (name:List UInt8) (num:Int) (A:OA) (n c:Nat):Value:=.agg #[.int .i64 op,str name,.int .i64 num,.slice A n c]
theorem Zx6 {op:Int} {name:List UInt8} {num:Int} {A:OA} {c:Nat} {l:List Int} {k:Nat} (w:World) (hk:k<=1048576) (hs:name.length<=maxLen) (h:RS w 1 A l.length c (ints l)) :
  CR 182 #[Zg4 op name num A l.length c,.int .i64 k] w ((.bool (Zb1 k (op,name,num,l)))):=by
 have H0:=hdQ h
 have HS:=hdQ hs
 have hll:=h.len
 unfold maxLen at hll
 clear h hs
 have hk1:IntKind.i64.wrap ((k:Int)-1)=(k:Int)-1:=IntWalk.i64_in _ qo
 have HB0:=qh (Bw w (w.alloc (.cells #[.int .i64 op,str name,.int .i64 num,.slice A l.length c] 155))) bll
 go_enter Tryz.func182,Tryz.ntmps182
 go_wp2_with fail
 go_loop [6,11] (λ_ i=>∃ j:Nat,j<=l.length/\i=.int .i64 j/\Zga (l.take j) 0 ((k:Int)-1)=true) (λ_ i=>l.length-(RowKit.intOf i).toNat)
 case atStart=>exact ⟨0,Nat.zero_le _,rfl,rfl⟩
 case round =>
  obtain ⟨j,hj,rfl,ht⟩:=hrel
  have HT:=hdQ ht
  clear ht
  by_cases hlt:j<l.length
  ·obtain ⟨b,o,rfl,hbh,hcell⟩:=H0.out.open_.2.2 qo
   have c1:w.cell? ⟨b,o+j,none⟩=some (.int .i64 l[j]):=by rw [hcell j qo,Zd3 hlt]
   have nb:¬ b=w.heap.size:=qo
   have i2:(j:Int)<l.length:=qo
   clear hcell
   cases hin:inB l[j] 0 ((k:Int)-1) with
   | true =>
    have HK:=hdQ (Zm5 HT.out hlt hin)
    generalize hx:l[j]=x at *
    go_wp2_with (first|(go_at_call 119;refine (Zdm hin _).mono ?_;rintro e w' ⟨rfl,rfl⟩)|fail)
    go_round
    case rel=>exact ⟨j+1,qo,qg,HK.out⟩
    case measure=>exact qn
   | false =>
    have HF:=qh (Zb1 k (op,name,num,l)=false) (by rw [Zfl,Zm4,Zk6 hlt hin];simp)
    generalize hx:l[j]=x at *
    go_wp2_with (first|(go_at_call 119;refine (Zdm hin _).mono ?_;rintro e w' ⟨rfl,rfl⟩)|fail)
    go_ret
    exact ⟨Zaf HF.out.symm,HB0.out⟩
  ·obtain rfl:j=l.length:=by omega
   have HA:=qh (Zb1 k (op,name,num,l)=Zbr (op,name,num,l)) (by rw [Zfl,Zm4];have:=HT.out;rw [List.take_length] at this;rw [this];simp)
   have hlt':¬ (l.length:Int)<l.length:=qo
   clear HT hk1 hj hlt
   rcases op_cases op with rfl|rfl|rfl|rfl|rfl|rfl|rfl|rfl|h9
   (rcases emp_cases name with ⟨rfl,hem⟩|⟨hne,hem⟩<;>cases hn:inB num 0 2559999<;>have HIN:=hdQ (Zdm hn));rotate_left 4
   (cases hq:Zai name<;>(have HQ:=(λwx=>Zfe (l:=name) wx HS.out);rw [hq] at HQ;replace HQ:=hdQ HQ)<;>by_cases hn:num=0);rotate_left 4
   (cases hq:Zai name<;>(have HQ:=(λwx=>Zfe (l:=name) wx HS.out);rw [hq] at HQ;replace HQ:=hdQ HQ)<;>by_cases hn:num=0);rotate_left 4
   (rcases emp_cases name with ⟨rfl,hem⟩|⟨hne,hem⟩<;>by_cases hn:num=0);rotate_left 4
   have HIN:=hdQ (Zdm (show inB 4 4 7=true from rfl));(rcases emp_cases name with ⟨rfl,hem⟩|⟨hne,hem⟩<;>by_cases hn:num=0);rotate_left 4
   have HIN:=hdQ (Zdm (show inB 5 4 7=true from rfl));(rcases emp_cases name with ⟨rfl,hem⟩|⟨hne,hem⟩<;>by_cases hn:num=0);rotate_left 4
   have HIN:=hdQ (Zdm (show inB 6 4 7=true from rfl));(rcases emp_cases name with ⟨rfl,hem⟩|⟨hne,hem⟩<;>by_cases hn:num=0);rotate_left 4
   have HIN:=hdQ (Zdm (show inB 7 4 7=true from rfl));(rcases emp_cases name with ⟨rfl,hem⟩|⟨hne,hem⟩<;>by_cases hn:num=0);rotate_left 4
   have e1:(op==1)=false:=(by simp;omega);have e2:(op==2)=false:=(by simp;omega);have e3:(op==3)=false:=(by simp;omega);have e4:(op==4)=false:=(by simp;omega);have e5:(op==5)=false:=(by simp;omega);have e6:(op==6)=false:=(by simp;omega);have e7:(op==7)=false:=(by simp;omega);have e8:(op==8)=false:=(by simp;omega);have f1:¬ op=1:=qo;have hf:inB op 4 7=false:=(by unfold inB;simp;omega);have n9:=nm9 h9;have s9:=sh9 h9 l.length;have HIN:=hdQ (Zdm hf);rcases emp_cases name with ⟨rfl,hem⟩|⟨hne,hem⟩<;>by_cases hn:num=0
   all_goals (first|subst hn|(have hnb:(num==0)=false:=(by simpa using hn))|skip)
   all_goals
    go_wp2_with ((first|(go_at_call 119;refine (HIN.out _).mono ?_;rintro e w' ⟨rfl,rfl⟩)|(go_at_call 183;refine (HQ.out _).mono ?_;rintro e w' ⟨rfl,rfl⟩)|fail))
    iterate 2 (try (go_quiet ((first|(go_at_call 119;exact Zat (HIN.out _))|(go_at_call 183;exact Zat (HQ.out _))|fail));go_wp2_with ((first|(go_at_call 119;refine (HIN.out _).mono ?_;rintro e w' ⟨rfl,rfl⟩)|(go_at_call 183;refine (HQ.out _).mono ?_;rintro e w' ⟨rfl,rfl⟩)|fail))))
    go_ret
    exact ⟨Zaf (by rw [HA.out,fld];first|(simp [Za0,hne];done)|(simp [n9,hne];done)|(simp [Za0,hq];done)|(simp [Za0,hn];done)|(simp [n9,hn,f1];done)|(rw [sh1,Zex 0];simp [Za0,hn];done)|(rw [sh2,Zex 0];simp [Za0,hq];done)|(rw [sh8,Zxe 3];simp [Za0,hq];done)|(rw [sh3,Zex 1];simp [Za0];done)|(rw [sh4,Zex 2];simp [Za0];done)|(rw [sh5,Zex 2];simp [Za0];done)|(rw [sh6,Zex 2];simp [Za0];done)|(rw [sh7,Zex 2];simp [Za0];done)|(simp [n9,s9];done)|(simp [n9,s9,f1];done)),bll⟩
theorem ident_ne {l:List UInt8} (h:Zai l=true):l≠[]:=by
 intro e;subst e;exact absurd h qd
theorem Zr1 {op:Int} {name:List UInt8} {num:Int} {A:OA} {c:Nat} {l:List Int} (w:World) (hs:name.length<=maxLen) (h:RS w 1 A l.length c (ints l)) :
  CR 153 #[Zg4 op name num A l.length c] w ((.bool (Zbr (op,name,num,l)))):=by
 have HI:=qh (∀ wx,CR 154 #[str name] wx (.bool (Zai name))) (λwx=>Zhf (l:=name) wx hs)
 have hll:=h.len
 unfold maxLen at hll
 clear h hs
 have HB0:=qh (Bw w (w.alloc (.cells #[.int .i64 op,str name,.int .i64 num,.slice A l.length c] 155))) bll
 rcases op_cases op with rfl|rfl|rfl|rfl|rfl|rfl|rfl|rfl|h9
 (cases hq:Zai name<;>rcases emp_cases name with ⟨rfl,hem⟩|⟨hne,hem⟩<;>cases hn:inB num 0 2559999);rotate_left 8
 (cases hq:Zai name<;>by_cases hn:num=0);rotate_left 4
 (cases hq:Zai name<;>by_cases hn:num=0);rotate_left 4
 (cases hq:Zai name<;>rcases emp_cases name with ⟨rfl,hem⟩|⟨hne,hem⟩<;>by_cases hn:num=0);rotate_left 8
 (cases hq:Zai name<;>rcases emp_cases name with ⟨rfl,hem⟩|⟨hne,hem⟩<;>by_cases hn:num=0);rotate_left 8
 (cases hq:Zai name<;>rcases emp_cases name with ⟨rfl,hem⟩|⟨hne,hem⟩<;>by_cases hn:num=0);rotate_left 8
 (cases hq:Zai name<;>rcases emp_cases name with ⟨rfl,hem⟩|⟨hne,hem⟩<;>by_cases hn:num=0);rotate_left 8
 (cases hq:Zai name<;>rcases emp_cases name with ⟨rfl,hem⟩|⟨hne,hem⟩<;>by_cases hn:num=0);rotate_left 8
 have e1:(op==1)=false:=(by simp;omega);have e2:(op==2)=false:=(by simp;omega);have e3:(op==3)=false:=(by simp;omega);have e4:(op==4)=false:=(by simp;omega);have e5:(op==5)=false:=(by simp;omega);have e6:(op==6)=false:=(by simp;omega);have e7:(op==7)=false:=(by simp;omega);have e8:(op==8)=false:=(by simp;omega);have f1:¬ op=1:=qo;have n9:=nm9 h9;have s9:=sh9 h9 l.length;cases hq:Zai name<;>rcases emp_cases name with ⟨rfl,hem⟩|⟨hne,hem⟩<;>by_cases hn:num=0
 all_goals try (exact absurd rfl (ident_ne hq))
 all_goals (first|subst hn|(have hnb:(num==0)=false:=(by simpa using hn))|skip)
 all_goals
  have HJ:=HI.out
  rw [hq] at HJ
  replace HJ:=hdQ HJ
  clear HI
  go_enter Tryz.func153,Tryz.ntmps153
  go_wp2_with ((first|(go_at_call 154;refine (HJ.out _).mono ?_;rintro e w' ⟨rfl,hb⟩;have hz:=hb.size;(try simp at hz);obtain ⟨c0,f0,z0⟩:=bxx hb (w.heap.size))|(go_at_call 77;refine (Zb5 hn _).mono ?_;rintro e w' ⟨rfl,rfl⟩)|fail))
  iterate 2 (try (go_quiet ((first|(go_at_call 77;exact Zat (Zb5 hn _))|fail));go_wp2_with ((first|(go_at_call 154;refine (HJ.out _).mono ?_;rintro e w' ⟨rfl,hb⟩;have hz:=hb.size;(try simp at hz);obtain ⟨c0,f0,z0⟩:=bxx hb (w.heap.size))|(go_at_call 77;refine (Zb5 hn _).mono ?_;rintro e w' ⟨rfl,rfl⟩)|fail))))
  all_goals go_ret
  all_goals exact ⟨Zaf (by rw [fld];first|(simp [Za0,hne];done)|(simp [n9,hne];done)|(simp [Za0,hq];done)|(simp [Za0,hn];done)|(simp [n9,hn,f1];done)|(rw [sh1,Zex 0];simp [Za0,hn];done)|(rw [sh2,Zex 0];simp [Za0,hq];done)|(rw [sh8,Zxe 3];simp [Za0,hq];done)|(rw [sh3,Zex 1];simp [Za0];done)|(rw [sh4,Zex 2];simp [Za0];done)|(rw [sh5,Zex 2];simp [Za0];done)|(rw [sh6,Zex 2];simp [Za0];done)|(rw [sh7,Zex 2];simp [Za0];done)|(simp [n9,s9,f1];done)),bll⟩
theorem Zx5 {A A2:OA} {c c2:Nat} {p:Zag} (w:World) (h:Zcd w A c A2 c2 p) (hn:Za5 p p.1.length=true) (ha:Zbp p p.2.length=true) (h1:p.1.length<=1048576) (h2:p.2.length<=1048576) :
  CL 184 #[Zbz A p.1.length c A2 p.2.length c2] w λe w'=>∃ g,e=.returned (sl g p.1.length)/\Own w' g 3 (ints (Zfz p.1.length (Zhh p)))/\w.heap.size<=g/\Bw w w':=by
 have H0:=hdQ h
 have HN:=hdQ hn
 have HA:=hdQ ha
 clear h hn ha
 have hmk:∀ wx:World,(Instr.makeSlice 24 (.int .i64 p.1.length) (.int .i64 p.1.length)).run Tryz.prog wx=.ok (.slice (some ⟨wx.heap.size,0,none⟩) p.1.length p.1.length) (wx.alloc (.cells (madeCells #[Value.int .i64 0] p.1.length) 3)):=by
  intro wx
  have:=Zss (P:=Tryz.prog) 24 3 _ 1 8 Tryz.underlying24 T.infoInt p.1.length qo qo wx
  simp only [Nat.mul_one] at this
  exact this
 have HP0:=qh (Own ((w.alloc (.cells #[.slice A p.1.length c,.slice A2 p.2.length c2] 62)).alloc (.cells (madeCells #[Value.int .i64 0] p.1.length) 3)) w.heap.size 62 [.slice A p.1.length c,.slice A2 p.2.length c2]) (Own.alloc (Own.new w _ #[_,_]) _)
 have HU0:=qh (Own ((w.alloc (.cells #[.slice A p.1.length c,.slice A2 p.2.length c2] 62)).alloc (.cells (madeCells #[Value.int .i64 0] p.1.length) 3)) (w.heap.size+1) 3 (ints (Zfz p.1.length (Zao p 0)))) (by rw [show Zao p 0=[] from rfl,Ztb,<- Zgr];exact Own.at_new qs)
 go_enter Tryz.func184,Tryz.ntmps184
 go_wp2_with fail
 clear hmk
 go_loopw [5,17] (λ_ i wr=>∃ k:Nat,k<=p.1.length/\i=.int .i64 k/\Own wr w.heap.size 62 [.slice A p.1.length c,.slice A2 p.2.length c2]/\Own wr (w.heap.size+1) 3 (ints (Zfz p.1.length (Zao p k)))/\Bw w wr) (λ_ i _=>p.1.length-(RowKit.intOf i).toNat)
 case atStart=>exact ⟨0,Nat.zero_le _,rfl,HP0.out,HU0.out,bll⟩
 case round =>
  obtain ⟨k,hk,rfl,hp,hu,hb⟩:=hrel
  obtain ⟨wo,rfl⟩:=qe wr
  have hz:=hb.size
  have hl:=hu.lt
  have HP:=hdQ hp
  have HU:=hdQ hu
  have HB:=hdQ hb
  have p0:wo.cell? ⟨w.heap.size,0,none⟩=some (.slice A p.1.length c):=hp.cell 0
  have p1:wo.cell? ⟨w.heap.size,1,none⟩=some (.slice A2 p.2.length c2):=hp.cell 1
  clear hp hu hb HP0 HU0
  by_cases hlt:k<p.1.length
  ·
   obtain ⟨b,o,A',c',rfl,hbh,hs,hr,x0,x1,x2,x3⟩:=H0.out.1.2.2 k hlt
   have d0:=(HB.out.cell (p:=⟨b,o+k*4,none⟩) hbh).trans x0
   have d1:=(HB.out.cell (p:=⟨b,o+k*4+1,none⟩) hbh).trans x1
   have d2:=(HB.out.cell (p:=⟨b,o+k*4+2,none⟩) hbh).trans x2
   have d3:=(HB.out.cell (p:=⟨b,o+k*4+3,none⟩) hbh).trans x3
   clear x0 x1 x2 x3
   obtain ⟨⟨op,name,num,args⟩,hx⟩:∃ x,p.1[k]=x:=⟨_,rfl⟩
   rw [hx] at d0 d1 d2 d3 hr hs
   (try dsimp only at d0 d1 d2 d3 hr hs)
   have HX:=hdQ hx
   have HR:=hdQ hr
   have HS:=hdQ hs
   have i0:(k:Int)<p.1.length:=qo
   have i00:(0:Int)<=k:=qo
   have HUL:=qh ((Zao p k).length<=3*k) (Zev k qo (Zpn qo (Nat.le_refl _) HN.out))
   have HOK:=qh (args.length<=3/\∀ a∈args,0<=a/\a<k) (by have:=Zek (Zct HN.out hlt);rw [hx] at this;exact this)
   clear hx hr hs
   have ha3:=HOK.out.1
   go_wp2_with fail
   go_loopw [7,24] (λ_ i wr=>∃ j:Nat,j<=args.length/\i=.int .i64 j/\Own wr w.heap.size 62 [.slice (some ⟨b,o,none⟩) p.1.length c,.slice A2 p.2.length c2]/\Own wr (w.heap.size+1) 3 (ints (Zfz p.1.length (Zao p k++(args.take j).map Int.toNat)))/\Bw w wr) (λ_ i _=>args.length-(RowKit.intOf i).toNat)
   case atStart=>exact ⟨0,Nat.zero_le _,rfl,(owx HP.out),by rw [List.take_zero,List.map_nil,List.append_nil];exact (owx HU.out),bll⟩
   case round =>
    obtain ⟨j,hj,rfl,hp2,hu2,hb2⟩:=hrel
    obtain ⟨wi,rfl⟩:=qe wr
    have hz2:=hb2.size
    have hl2:=hu2.lt
    have HP2:=hdQ hp2
    have HU2:=hdQ hu2
    have HB2:=hdQ hb2
    have q0:wi.cell? ⟨w.heap.size,0,none⟩=some (.slice (some ⟨b,o,none⟩) p.1.length c):=hp2.cell 0
    have q1:wi.cell? ⟨w.heap.size,1,none⟩=some (.slice A2 p.2.length c2):=hp2.cell 1
    clear hp2 hb2
    by_cases hlj:j<args.length
    ·obtain ⟨b2,o2,rfl,hbh2,hcell2⟩:=(RS.step HB2.out HR.out).open_.2.2 qo
     have e1:wi.cell? ⟨b2,o2+j,none⟩=some (.int .i64 args[j]):=by rw [hcell2 j qo,Zd3 hlj]
     have hin:=HOK.out.2 _ (List.getElem_mem hlj)
     obtain ⟨m,hm⟩:∃ m:Nat,args[j]=m:=⟨args[j].toNat,qo⟩
     have hmn:m<p.1.length:=qo
     rw [hm] at e1
     have e2:wi.cell? ⟨w.heap.size+1,m,none⟩=some (.int .i64 ((Zao p k++(args.take j).map Int.toNat).count m:Int)):=by rw [hu2.cell,Zfy hmn]
     have e3:wi.frozen? ⟨w.heap.size+1,m,none⟩=false:=hu2.frozen _
     have hcl:(Zao p k++(args.take j).map Int.toNat).count m<=3*k+j:=by
      have h1:=Zjy (l:=Zao p k++(args.take j).map Int.toNat) m
      have h2:=HUL.out
      rw [List.length_append,List.length_map] at h1
      have h3:(args.take j).length<=j:=by rw [List.length_take];omega
      omega
     have HNX:Hid ((ints (Zfz p.1.length (Zao p k++(args.take j).map Int.toNat))).set m (.int .i64 (((Zao p k++(args.take j).map Int.toNat).count m:Int)+1))=ints (Zfz p.1.length (Zao p k++(args.take (j+1)).map Int.toNat))):=hdQ (by
      rw [Zif hmn,List.take_succ_eq_append_getElem hlj,List.map_append,<- List.append_assoc]
      simp [hm])
     generalize (Zao p k++(args.take j).map Int.toNat).count m=q at *
     have hw1:IntKind.i64.wrap ((q:Int)+1)=q+1:=IntWalk.i64_in _ qo
     have i1:(j:Int)<args.length:=qo
     have i2:(m:Int)<p.1.length:=qo
     have i3:(0:Int)<=m:=qo
     clear hcell2 hu2 hin hm
     go_wp2_with fail
     go_roundw
     case rel=>exact ⟨j+1,qo,qg,(owx HP2.out),by rw [<- HNX.out];exact Own.set_ HU2.out m _,bll⟩
     case measure=>exact qn
    ·obtain rfl:j=args.length:=by omega
     have HUX:=qh (Own wi (w.heap.size+1) 3 (ints (Zfz p.1.length (Zao p (k+1))))) (by have:=HU2.out;rw [List.take_length] at this;rw [Zfv hlt,HX.out];exact this)
     clear hu2
     go_wp2_with fail
     go_roundw
     case rel=>exact ⟨k+1,qo,qg,(owx HP2.out),HUX.out,bll⟩
     case measure=>exact qn
  ·obtain rfl:k=p.1.length:=by omega
   have HUR:=qh (Own wo (w.heap.size+1) 3 (ints (Zfz p.1.length (Zaz p 0)))) (by unfold Zaz;rw [List.take_zero,List.append_nil,<- Zgk];exact HU.out)
   go_wp2_with fail
   go_loopw [9,39] (λ_ i wr=>∃ j:Nat,j<=p.2.length/\i=.int .i64 j/\Own wr (w.heap.size+1) 3 (ints (Zfz p.1.length (Zaz p j)))/\Bw w wr) (λ_ i _=>p.2.length-(RowKit.intOf i).toNat)
   case atStart=>exact ⟨0,Nat.zero_le _,rfl,HUR.out,HB.out⟩
   case round =>
    obtain ⟨j,hj,rfl,hu2,hb2⟩:=hrel
    obtain ⟨wi,rfl⟩:=qe wr
    have hz2:=hb2.size
    have hl2:=hu2.lt
    have HU2:=hdQ hu2
    have HB2:=hdQ hb2
    clear hb2 HUR
    by_cases hlj:j<p.2.length
    ·obtain ⟨b,o,rfl,hbh,hs,x0,x1⟩:=H0.out.2.2.2 j hlj
     have d0:=(HB2.out.cell (p:=⟨b,o+j*2,none⟩) hbh).trans x0
     have d1:=(HB2.out.cell (p:=⟨b,o+j*2+1,none⟩) hbh).trans x1
     have hok:Zby p.1.length p.2[j]=true:=Ze5 HA.out hlj
     unfold Zby at hok
     simp only [Bool.and_eq_true] at hok
     have hin:=Za6 hok.2
     obtain ⟨m,hm⟩:∃ m:Nat,p.2[j].2=m:=⟨p.2[j].2.toNat,qo⟩
     have hmn:m<p.1.length:=qo
     have HNX:=qh ((ints (Zfz p.1.length (Zaz p j))).set m (.int .i64 (((Zaz p j).count m:Int)+1))=ints (Zfz p.1.length (Zaz p (j+1)))) (by rw [Zif hmn,Zh7 hlj,hm];rfl)
     rw [hm] at d1
     have e2:wi.cell? ⟨w.heap.size+1,m,none⟩=some (.int .i64 ((Zaz p j).count m:Int)):=by rw [hu2.cell,Zfy hmn]
     have e3:wi.frozen? ⟨w.heap.size+1,m,none⟩=false:=hu2.frozen _
     have hcl:(Zaz p j).count m<=3*p.1.length+j:=Nat.le_trans (Zjy m) (Zi9 HN.out j)
     generalize (Zaz p j).count m=q at *
     have hw1:IntKind.i64.wrap ((q:Int)+1)=q+1:=IntWalk.i64_in _ qo
     have i1:(j:Int)<p.2.length:=qo
     have i2:(m:Int)<p.1.length:=qo
     have i3:(0:Int)<=m:=qo
     generalize hnm:p.2[j].1=nm at *
     clear x0 x1 hok hin hm hu2 hs hnm
     go_wp2_with fail
     go_roundw
     case rel=>exact ⟨j+1,qo,qg,by rw [<- HNX.out];first|exact Own.set_ (owx HU2.out) m _|exact Own.alloc (Own.set_ (owx HU2.out) m _) _,bll⟩
     case measure=>exact qn
    ·obtain rfl:j=p.2.length:=by omega
     have HUE:=qh (Own wi (w.heap.size+1) 3 (ints (Zfz p.1.length (Zhh p)))) (by rw [<- Zja];exact HU2.out)
     clear hu2
     go_wp2_with fail
     go_ret
     exact ⟨_,rfl,HUE.out,qo,HB2.out⟩
theorem Zjq {A A2:OA} {c c2:Nat} {p:Zag} (w:World) (h:Zcd w A c A2 c2 p) (h1:p.1.length<=1048576) (h2:p.2.length<=1048576) :
  CR 126 #[Zbz A p.1.length c A2 p.2.length c2] w ((.bool (Zas p))):=by
 have H0:=hdQ h
 clear h
 have HP0:=qh (Own (w.alloc (.cells #[.slice A p.1.length c,.slice A2 p.2.length c2] 62)) w.heap.size 62 [.slice A p.1.length c,.slice A2 p.2.length c2]) (Own.new w _ #[_,_])
 have hwn:IntKind.i64.wrap ((p.1.length:Int)-1)=(p.1.length:Int)-1:=IntWalk.i64_in _ qo
 go_enter Tryz.func126,Tryz.ntmps126
 go_wp2_with fail
 go_loopw [3,4,12] (λ_ _ i wr=>∃ k:Nat,k<=p.1.length/\i=.int .i64 k/\Za5 p k=true/\Own wr w.heap.size 62 [.slice A p.1.length c,.slice A2 p.2.length c2]/\Bw w wr) (λ_ _ i _=>p.1.length-(RowKit.intOf i).toNat)
 case atStart=>exact ⟨0,Nat.zero_le _,rfl,rfl,HP0.out,bll⟩
 case round =>
  obtain ⟨k,hk,rfl,ht,hp,hb⟩:=hrel
  obtain ⟨wo,rfl⟩:=qe wr
  have hz:=hb.size
  have hpl:=hp.lt
  have HT:=hdQ ht
  have HP:=hdQ hp
  have HB:=hdQ hb
  have p0:wo.cell? ⟨w.heap.size,0,none⟩=some (.slice A p.1.length c):=hp.cell 0
  have p1:wo.cell? ⟨w.heap.size,1,none⟩=some (.slice A2 p.2.length c2):=hp.cell 1
  clear hp hb HP0 ht
  by_cases hlt:k<p.1.length
  ·
   obtain ⟨b,o,A',c',rfl,hbh,hs,hr,x0,x1,x2,x3⟩:=H0.out.1.2.2 k hlt
   have d0:=(HB.out.cell (p:=⟨b,o+k*4,none⟩) hbh).trans x0
   have d1:=(HB.out.cell (p:=⟨b,o+k*4+1,none⟩) hbh).trans x1
   have d2:=(HB.out.cell (p:=⟨b,o+k*4+2,none⟩) hbh).trans x2
   have d3:=(HB.out.cell (p:=⟨b,o+k*4+3,none⟩) hbh).trans x3
   clear x0 x1 x2 x3
   obtain ⟨⟨op,name,num,args⟩,hx⟩:∃ x,p.1[k]=x:=⟨_,rfl⟩
   rw [hx] at d0 d1 d2 d3 hr hs
   (try dsimp only at d0 d1 d2 d3 hr hs)
   have HX:=hdQ hx
   have HR:=hdQ hr
   have HS:=hdQ hs
   have i0:(k:Int)<p.1.length:=qo
   have i00:(0:Int)<=k:=qo
   have HTS:=hdQ (Zeu hlt)
   rw [HX.out] at HTS
   have HCN:=qh (∀ wx,Bw w wx->CR 182 #[Zg4 op name num A' args.length c',.int .i64 k] wx (.bool (Zb1 k (op,name,num,args)))) (λwx hbx=>Zx6 wx qo HS.out (RS.step hbx HR.out))
   cases hok:Zb1 k (op,name,num,args) with
   | false =>
    have HF:=qh (Zas p=false) (by rw [Zdd,Zmr hlt (by rw [hx];exact hok)];simp)
    rw [hok] at HCN
    clear hx hr hs
    go_wp2_with (first|(go_at_call 182;refine (HCN.out _ bll).mono ?_;rintro e w' ⟨rfl,hbx⟩;have hzx:=hbx.size;(try simp at hzx);have q0:=hbx.cell (p:=⟨w.heap.size,0,none⟩) (by simp;omega);have q1:=hbx.cell (p:=⟨w.heap.size,1,none⟩) (by simp;omega);have HBX:=hdQ hbx;clear hbx)|fail)
    go_ret
    exact ⟨Zaf HF.out.symm,Below.step HBX.out bll (by simp;omega)⟩
   | true =>
    have HK:=qh (Za5 p (k+1)=true) (by rw [HTS.out,HT.out,hok];rfl)
    rw [hok] at HCN
    clear hx hr hs
    go_wp2_with (first|(go_at_call 182;refine (HCN.out _ bll).mono ?_;rintro e w' ⟨rfl,hbx⟩;have hzx:=hbx.size;(try simp at hzx);have HBX:=hdQ hbx;clear hbx)|fail)
    go_roundw
    case rel=>exact ⟨k+1,qo,qg,HK.out,Own.step HBX.out (owx HP.out),Below.step HBX.out bll (by simp;omega)⟩
    case measure=>exact qn
  ·obtain rfl:k=p.1.length:=by omega
   go_wp2_with fail
   go_loopw [6,25] (λ_ i wr=>∃ j:Nat,j<=p.2.length/\i=.int .i64 j/\Zbp p j=true/\Own wr w.heap.size 62 [.slice A p.1.length c,.slice A2 p.2.length c2]/\Bw w wr) (λ_ i _=>p.2.length-(RowKit.intOf i).toNat)
   case atStart=>exact ⟨0,Nat.zero_le _,rfl,rfl,HP.out,HB.out⟩
   case round =>
    obtain ⟨j,hj,rfl,ha,hp2,hb2⟩:=hrel
    obtain ⟨wi,rfl⟩:=qe wr
    have hz2:=hb2.size
    have hl2:=hp2.lt
    have HA:=hdQ ha
    have HP2:=hdQ hp2
    have HB2:=hdQ hb2
    have q0:wi.cell? ⟨w.heap.size,0,none⟩=some (.slice A p.1.length c):=hp2.cell 0
    have q1:wi.cell? ⟨w.heap.size,1,none⟩=some (.slice A2 p.2.length c2):=hp2.cell 1
    clear hb2 hp2 ha
    by_cases hlj:j<p.2.length
    ·obtain ⟨b,o,rfl,hbh,hs,x0,x1⟩:=H0.out.2.2.2 j hlj
     have d0:=(HB2.out.cell (p:=⟨b,o+j*2,none⟩) hbh).trans x0
     have d1:=(HB2.out.cell (p:=⟨b,o+j*2+1,none⟩) hbh).trans x1
     have HAS:=hdQ (Zhd hlj)
     obtain ⟨⟨nm,rt⟩,hx⟩:∃ x,p.2[j]=x:=⟨_,rfl⟩
     rw [hx] at d0 d1 hs HAS
     (try dsimp only at d0 d1 hs)
     have HX:=hdQ hx
     have i1:(j:Int)<p.2.length:=qo
     have i2:(0:Int)<=j:=qo
     have HQ:=qh (∀ wx,CL 183 #[str nm] wx λe w'=>e=.returned (.bool (Zai nm))/\wx=w') (λwx=>Zfe wx hs)
     clear x0 x1 hs hx
     have fin:∀ b:Bool,Zby p.1.length (nm,rt)=b->(b=false->Zas p=false)/\(b=true->Zbp p (j+1)=true):=λb hb=>⟨λe=>by rw [Zdd,Zjf hlj (by rw [HX.out,hb,e])];simp,λe=>by rw [HAS.out,HA.out,hb,e];rfl⟩
     have FIN:=hdQ fin
     clear fin
     cases hid:Zai nm with
     | false =>
      have HF:=hdQ ((FIN.out false (by unfold Zby;rw [hid];rfl)).1 rfl)
      rw [hid] at HQ
      go_wp2_with (first|(go_at_call 183;refine (HQ.out _).mono ?_;rintro e w' ⟨rfl,rfl⟩)|fail)
      (try (go_quiet ((first|(go_at_call 183;exact Zat (HQ.out _))|fail));go_wp2_with (first|(go_at_call 183;refine (HQ.out _).mono ?_;rintro e w' ⟨rfl,rfl⟩)|fail)))
      go_ret
      exact ⟨Zaf HF.out.symm,bll⟩
     | true =>
      rw [hid] at HQ
      cases hin:inB rt 0 ((p.1.length:Int)-1) with
      | false =>
       have HF:=hdQ ((FIN.out false (by unfold Zby;rw [hid];exact hin)).1 rfl)
       go_wp2_with (first|(go_at_call 183;refine (HQ.out _).mono ?_;rintro e w' ⟨rfl,rfl⟩)|(go_at_call 119;refine (Zdm hin _).mono ?_;rintro e w' ⟨rfl,rfl⟩)|fail)
       (try (go_quiet ((first|(go_at_call 183;exact Zat (HQ.out _))|(go_at_call 119;exact Zat (Zdm hin _))|fail));go_wp2_with (first|(go_at_call 183;refine (HQ.out _).mono ?_;rintro e w' ⟨rfl,rfl⟩)|(go_at_call 119;refine (Zdm hin _).mono ?_;rintro e w' ⟨rfl,rfl⟩)|fail)))
       go_ret
       exact ⟨Zaf HF.out.symm,bll⟩
      | true =>
       have HF:=hdQ ((FIN.out true (by unfold Zby;rw [hid];exact hin)).2 rfl)
       go_wp2_with (first|(go_at_call 183;refine (HQ.out _).mono ?_;rintro e w' ⟨rfl,rfl⟩)|(go_at_call 119;refine (Zdm hin _).mono ?_;rintro e w' ⟨rfl,rfl⟩)|fail)
       (try (go_quiet ((first|(go_at_call 183;exact Zat (HQ.out _))|(go_at_call 119;exact Zat (Zdm hin _))|fail));go_wp2_with (first|(go_at_call 183;refine (HQ.out _).mono ?_;rintro e w' ⟨rfl,rfl⟩)|(go_at_call 119;refine (Zdm hin _).mono ?_;rintro e w' ⟨rfl,rfl⟩)|fail)))
       go_roundw
       case rel=>exact ⟨j+1,qo,qg,HF.out,(owx HP2.out),bll⟩
       case measure=>exact qn
    ·obtain rfl:j=p.2.length:=by omega
     have HU:=qh (CL 184 #[Zbz A p.1.length c A2 p.2.length c2] wi λe w'=>∃ g,e=.returned (sl g p.1.length)/\Own w' g 3 (ints (Zfz p.1.length (Zhh p)))/\wi.heap.size<=g/\Bw wi w') (Zx5 _ (H0.out.step HB2.out) HT.out HA.out h1 h2)
     go_wp2_with fail
     refine HU.out.mono ?_
     rintro e w3 ⟨g,rfl,ho,hg,hb3⟩
     have hz3:=hb3.size
     have r0:=(hb3.cell (p:=⟨w.heap.size,0,none⟩) qo).trans q0
     have HO:=hdQ ho
     have HB3:=qh (Bw w w3) (Below.step hb3 HB2.out qo)
     have hgl:=ho.lt
     clear ho hb3 HU q0 q1 p0 p1
     go_wp2_with fail
     go_loop [8,47] (λ_ i=>∃ m:Nat,m<=p.1.length/\i=.int .i64 m/\Zet (Zhh p) m=true) (λ_ i=>p.1.length-(RowKit.intOf i).toNat)
     case atStart=>exact ⟨0,Nat.zero_le _,rfl,rfl⟩
     case round =>
      obtain ⟨m,hm,rfl,hones⟩:=hrel
      have HON:=hdQ hones
      clear hones
      by_cases hlm:m<p.1.length
      ·have e2:w3.cell? ⟨g,m,none⟩=some (.int .i64 ((Zhh p).count m:Int)):=by rw [HO.out.cell,Zfy hlm]
       have i1:(m:Int)<p.1.length:=qo
       have i2:(0:Int)<=m:=qo
       by_cases hone:(Zhh p).count m=1
       ·have HK:=qh (Zet (Zhh p) (m+1)=true) (by rw [Zko,HON.out,hone];rfl)
        rw [hone] at e2
        go_wp2_with fail
        go_round
        case rel=>exact ⟨m+1,qo,qg,HK.out⟩
        case measure=>exact qn
       ·have HF:=qh (Zas p=false) (by rw [Zdd,Zpl hlm hone];simp)
        generalize (Zhh p).count m=q at *
        have hq:((q:Int)==1)=false:=by simp;omega
        go_wp2_with fail
        go_ret
        exact ⟨Zaf HF.out.symm,HB3.out⟩
      ·obtain rfl:m=p.1.length:=by omega
       have HF:=qh (Zas p=decide (p.1.length<=60)) (by rw [Zdd,HT.out,HA.out,HON.out];simp)
       go_wp2_with fail
       go_ret
       exact ⟨Zaf (by rw [HF.out,Zxe 60];rfl),HB3.out⟩
theorem Znz (o:List Int) (m:Nat) (v:Int):(ints o).set m (.int .i64 v)=ints (o.set m v):=by simp [ints,List.map_set]
theorem Zq1 {ls:List Nat} {k:Int} {o:List Int} {t:Nat} (h:t<ls.length):Zdk (ls.take (t+1)) k o=(Zdk (ls.take t) k o).set ls[t] k:=by
 unfold Zdk;rw [List.take_succ_eq_append_getElem h,List.foldl_append];rfl
theorem Zfo {o:List Int} {i:Nat} (h:i<o.length):(ints o)[i]? = some (.int .i64 (o.getD i 0)):=by simp [h]
theorem Zn2 {p:Zag} {i:Nat} (h:i<p.1.length):(Zce p).getD i []=p.1[i].2.2.2.map Int.toNat:=by
 rw [Zcm (by rw [Zb6];exact h)];simp [Zce]
theorem rOfP_at {p:Zag} {i:Nat} (h:i<p.2.length):(Zdx p).getD i 0=p.2[i].2.toNat:=by
 rw [Zcm (by simp [Zdx];exact h)];simp [Zdx]
theorem Zwl {p:Zag} (h:Zas p=true) {k:Nat} (hk:k<p.2.length):∃ m:Nat,p.2[k].2=m/\m<p.1.length/\(Zdx p).getD k 0=m:=by
 obtain ⟨h1,h2,h3⟩:=Zgt h hk
 refine ⟨p.2[k].2.toNat,qo,qo,rOfP_at hk⟩
theorem arg_is {p:Zag} (h:Za5 p p.1.length=true) {i:Nat} (hi:i<p.1.length) {t:Nat} (ht:t<p.1[i].2.2.2.length):∃ m:Nat,p.1[i].2.2.2[t]=m/\m<i/\∃ h':t<((Zce p).getD i []).length,((Zce p).getD i [])[t]=m:=by
 have h1:=Zgj h hi _ (List.getElem_mem ht)
 refine ⟨p.1[i].2.2.2[t].toNat,qo,qo,by rw [Zn2 hi,List.length_map];exact ht, ?_⟩
 simp only [Zn2 hi,List.getElem_map]
theorem Zrs {A A2:OA} {c c2:Nat} {p:Zag} (w:World) (h:Zcd w A c A2 c2 p) (hv:Zas p=true) :
  CL 228 #[Zbz A p.1.length c A2 p.2.length c2] w λe w'=>∃ g,e=.returned (sl g p.1.length)/\Own w' g 3 (ints (Zlv p))/\w.heap.size<=g/\Bw w w':=by
 have H0:=hdQ h
 have HV:=hdQ hv
 have h1:=Zdi hv
 have h2:=Zda hv
 clear h hv
 have hmk:∀ wx:World,(Instr.makeSlice 24 (.int .i64 p.1.length) (.int .i64 p.1.length)).run Tryz.prog wx=.ok (.slice (some ⟨wx.heap.size,0,none⟩) p.1.length p.1.length) (wx.alloc (.cells (madeCells #[Value.int .i64 0] p.1.length) 3)):=by
  intro wx
  have:=Zss (P:=Tryz.prog) 24 3 _ 1 8 Tryz.underlying24 T.infoInt p.1.length qo qo wx
  simp only [Nat.mul_one] at this
  exact this
 have HP0:=qh (Own ((w.alloc (.cells #[.slice A p.1.length c,.slice A2 p.2.length c2] 62)).alloc (.cells (madeCells #[Value.int .i64 0] p.1.length) 3)) w.heap.size 62 [.slice A p.1.length c,.slice A2 p.2.length c2]) (Own.alloc (Own.new w _ #[_,_]) _)
 have HU0:=qh (Own ((w.alloc (.cells #[.slice A p.1.length c,.slice A2 p.2.length c2] 62)).alloc (.cells (madeCells #[Value.int .i64 0] p.1.length) 3)) (w.heap.size+1) 3 (ints (Zbe p.1.length (Zdx p) 0))) (by rw [Zbe,<- Zgr];exact Own.at_new qs)
 have hwn:IntKind.i64.wrap ((p.1.length:Int)-1)=(p.1.length:Int)-1:=IntWalk.i64_in _ qo
 go_enter Tryz.func228,Tryz.ntmps228
 go_wp2_with fail
 clear hmk
 go_loopw [4,5,16] (λ_ _ i wr=>∃ j:Nat,j<=p.2.length/\i=.int .i64 j/\Own wr w.heap.size 62 [.slice A p.1.length c,.slice A2 p.2.length c2]/\Own wr (w.heap.size+1) 3 (ints (Zbe p.1.length (Zdx p) j))/\Bw w wr) (λ_ _ i _=>p.2.length-(RowKit.intOf i).toNat)
 case atStart=>exact ⟨0,Nat.zero_le _,rfl,HP0.out,HU0.out,bll⟩
 case round =>
  obtain ⟨j,hj,rfl,hp,hu,hb⟩:=hrel
  obtain ⟨wo,rfl⟩:=qe wr
  have hz:=hb.size
  have hl:=hu.lt
  have HP:=hdQ hp
  have HU:=hdQ hu
  have HB:=hdQ hb
  have p0:wo.cell? ⟨w.heap.size,0,none⟩=some (.slice A p.1.length c):=hp.cell 0
  have p1:wo.cell? ⟨w.heap.size,1,none⟩=some (.slice A2 p.2.length c2):=hp.cell 1
  have hol:(Zbe p.1.length (Zdx p) j).length=p.1.length:=Zc8 _ _ _
  clear hp hb HP0 HU0
  by_cases hlj:j<p.2.length
  ·obtain ⟨b,o,rfl,hbh,hs,x0,x1⟩:=H0.out.2.2.2 j hlj
   have d0:=(HB.out.cell (p:=⟨b,o+j*2,none⟩) hbh).trans x0
   have d1:=(HB.out.cell (p:=⟨b,o+j*2+1,none⟩) hbh).trans x1
   obtain ⟨m,hm,hmn,hr⟩:=Zwl HV.out hlj
   rw [hm] at d1
   have HNX:=qh ((ints (Zbe p.1.length (Zdx p) j)).set m (.int .i64 j)=ints (Zbe p.1.length (Zdx p) (j+1))) (by rw [Znz,Zbe,hr])
   have e2:wo.cell? ⟨w.heap.size+1,m,none⟩=some (.int .i64 ((Zbe p.1.length (Zdx p) j).getD m 0)):=by rw [hu.cell,Zfo qo]
   have e3:wo.frozen? ⟨w.heap.size+1,m,none⟩=false:=hu.frozen _
   have i1:(j:Int)<p.2.length:=qo
   have i2:(m:Int)<p.1.length:=qo
   have i3:(0:Int)<=m:=qo
   generalize hnm:p.2[j].1=nm at *
   clear x0 x1 hm hu hs hnm hr
   go_wp2_with fail
   go_roundw
   case rel=>exact ⟨j+1,qo,qg,(owx HP.out),by rw [<- HNX.out];first|exact Own.set_ (owx HU.out) m _|exact Own.alloc (Own.set_ (owx HU.out) m _) _,bll⟩
   case measure=>exact qn
  ·obtain rfl:j=p.2.length:=by omega
   have HD0:=qh (Own wo (w.heap.size+1) 3 (ints (downTo (Zce p) (Zbe p.1.length (Zdx p) (Zdx p).length) 0))) (by rw [downTo,show (Zdx p).length=p.2.length by simp [Zdx]];exact HU.out)
   clear hu
   go_wp2_with fail
   go_loopw [6,8] (λi _ wr=>∃ j:Nat,j<=p.1.length/\i=.int .i64 ((p.1.length:Int)-1-j)/\Own wr w.heap.size 62 [.slice A p.1.length c,.slice A2 p.2.length c2]/\Own wr (w.heap.size+1) 3 (ints (downTo (Zce p) (Zbe p.1.length (Zdx p) (Zdx p).length) j))/\Bw w wr) (λi _ _=>(RowKit.intOf i+1).toNat)
   case atStart=>exact ⟨0,Nat.zero_le _,qs,HP.out,HD0.out,HB.out⟩
   case round =>
    obtain ⟨j,hj,rfl,hp2,hu2,hb2⟩:=hrel
    obtain ⟨wi,rfl⟩:=qe wr
    have hz2:=hb2.size
    have hl2:=hu2.lt
    have HP2:=hdQ hp2
    have HU2:=hdQ hu2
    have HB2:=hdQ hb2
    have q0:wi.cell? ⟨w.heap.size,0,none⟩=some (.slice A p.1.length c):=hp2.cell 0
    have q1:wi.cell? ⟨w.heap.size,1,none⟩=some (.slice A2 p.2.length c2):=hp2.cell 1
    have hol2:(downTo (Zce p) (Zbe p.1.length (Zdx p) (Zdx p).length) j).length=p.1.length:=by rw [Zfp,Zc8]
    clear hp2 hb2 hu2 HD0 p0 p1
    by_cases hlj:j<p.1.length
    ·obtain ⟨i,hi⟩:∃ i,i+j+1=p.1.length:=⟨p.1.length-1-j,qo⟩
     have hii:(p.1.length:Int)-1-j=i:=qo
     have hilt:i<p.1.length:=qo
     rw [hii]
     have HDN:=qh (downTo (Zce p) (Zbe p.1.length (Zdx p) (Zdx p).length) (j+1)=Zdk ((Zce p).getD i []) ((downTo (Zce p) (Zbe p.1.length (Zdx p) (Zdx p).length) j).getD i 0) (downTo (Zce p) (Zbe p.1.length (Zdx p) (Zdx p).length) j)) (by rw [downTo,Zb6,show p.1.length-1-j=i by omega])
     generalize downTo (Zce p) (Zbe p.1.length (Zdx p) (Zdx p).length) j=dl at *
     obtain ⟨b,o,A',c',rfl,hbh,hs,hr,x0,x1,x2,x3⟩:=H0.out.1.2.2 i hilt
     have d3:=(HB2.out.cell (p:=⟨b,o+i*4+3,none⟩) hbh).trans x3
     have HR:=hdQ hr
     have HAR:=qh (∀ t (ht:t<p.1[i].2.2.2.length),∃ m:Nat,p.1[i].2.2.2[t]=m/\m<i/\∃ h':t<((Zce p).getD i []).length,((Zce p).getD i [])[t]=m) (λt ht=>arg_is (Zbj HV.out) hilt ht)
     have HGL:=qh (((Zce p).getD i []).length=p.1[i].2.2.2.length) (by rw [Zn2 hilt,List.length_map])
     have HLT:=qh (∀ a∈(Zce p).getD i [],a<i) (λa ha=>Zir (Zbj HV.out) i a ha)
     have ha3:p.1[i].2.2.2.length<=3:=(Zek (Zct (Zbj HV.out) hilt)).1
     generalize p.1[i].2.2.2=args at *
     have i1:(i:Int)<p.1.length:=qo
     have i2:(0:Int)<=i:=qo
     have hw1:IntKind.i64.wrap ((i:Int)-1)=(i:Int)-1:=IntWalk.i64_in _ qo
     clear x0 x1 x2 x3 hs hr hii
     go_wp2_with fail
     go_loopw [8,42] (λ_ i_ wr=>∃ t:Nat,t<=args.length/\i_=.int .i64 t/\Own wr w.heap.size 62 [.slice (some ⟨b,o,none⟩) p.1.length c,.slice A2 p.2.length c2]/\Own wr (w.heap.size+1) 3 (ints (Zdk (((Zce p).getD i []).take t) (dl.getD i 0) dl))/\Bw w wr) (λ_ i_ _=>args.length-(RowKit.intOf i_).toNat)
     case atStart=>exact ⟨0,Nat.zero_le _,rfl,HP2.out,by rw [List.take_zero];exact HU2.out,HB2.out⟩
     case round =>
      obtain ⟨t,ht,rfl,hp3,hu3,hb3⟩:=hrel
      obtain ⟨wj,rfl⟩:=qe wr
      have hz3:=hb3.size
      have hl3:=hu3.lt
      have HP3:=hdQ hp3
      have HU3:=hdQ hu3
      have HB3:=hdQ hb3
      have hol3:(Zdk (((Zce p).getD i []).take t) (dl.getD i 0) dl).length=p.1.length:=by rw [Zmk];exact hol2
      clear hp3 hb3
      by_cases hlt:t<args.length
      ·obtain ⟨b2,o2,rfl,hbh2,hcell2⟩:=(RS.step HB3.out HR.out).open_.2.2 qo
       have e1:wj.cell? ⟨b2,o2+t,none⟩=some (.int .i64 args[t]):=by rw [hcell2 t qo,Zd3 hlt]
       obtain ⟨m,hm,hmi,h',hg⟩:=HAR.out t hlt
       rw [hm] at e1
       have e2:wj.cell? ⟨w.heap.size+1,i,none⟩=some (.int .i64 (dl.getD i 0)):=by
        rw [hu3.cell,Zfo qo]
        rw [(Zgg (((Zce p).getD i []).take t) (dl.getD i 0) i dl).2 (λhmem=>by have:=HLT.out i (List.mem_of_mem_take hmem);omega)]
       have e4:wj.cell? ⟨w.heap.size+1,m,none⟩=some (.int .i64 ((Zdk (((Zce p).getD i []).take t) (dl.getD i 0) dl).getD m 0)):=by rw [hu3.cell,Zfo qo]
       have e3:wj.frozen? ⟨w.heap.size+1,m,none⟩=false:=hu3.frozen _
       have HNX:Hid ((ints (Zdk (((Zce p).getD i []).take t) (dl.getD i 0) dl)).set m (.int .i64 (dl.getD i 0))=ints (Zdk (((Zce p).getD i []).take (t+1)) (dl.getD i 0) dl)):=hdQ (by rw [Znz,Zq1 h',hg])
       generalize (Zdk (((Zce p).getD i []).take t) (dl.getD i 0) dl).getD m 0=old at *
       generalize dl.getD i 0=kv at *
       have j1:(t:Int)<args.length:=qo
       have j2:(m:Int)<p.1.length:=qo
       have j3:(0:Int)<=m:=qo
       clear hcell2 hu3 hm hg hol3
       go_wp2_with fail
       go_roundw
       case rel=>exact ⟨t+1,qo,qg,(owx HP3.out),by rw [<- HNX.out];exact Own.set_ HU3.out m _,bll⟩
       case measure=>exact qn
      ·obtain rfl:t=args.length:=by omega
       have HUX:=qh (Own wj (w.heap.size+1) 3 (ints (downTo (Zce p) (Zbe p.1.length (Zdx p) (Zdx p).length) (j+1)))) (by rw [HDN.out];have:=HU3.out;rw [List.take_of_length_le (by rw [HGL.out];exact Nat.le_refl _)] at this;exact this)
       clear hu3
       go_wp2_with fail
       go_roundw
       case rel=>exact ⟨j+1,qo,congrArg (Value.int .i64) qo,HP3.out,HUX.out,HB3.out⟩
       case measure=>exact qn
    ·obtain rfl:j=p.1.length:=by omega
     have hm1:(p.1.length:Int)-1-p.1.length = -1:=qo
     rw [hm1]
     have HUE:=qh (Own wi (w.heap.size+1) 3 (ints (Zlv p))) (by have:=HU2.out;unfold Zlv ownS;rw [Zb6];exact this)
     go_wp2_with fail
     go_ret
     exact ⟨_,rfl,HUE.out,qo,HB2.out⟩
abbrev Zme (bo bp bv:Nat):Value:=.func (.func 248) #[] #[.pointer (some ⟨bo,0,none⟩),.pointer (some ⟨bp,0,none⟩),.pointer (some ⟨bv,0,none⟩)]
theorem I_visit {A:OA} {c:Nat} {p:Zag} (w0:World) (hN:Zf3 w0 A c p.1) (hv:Za5 p p.1.length=true) (hn:p.1.length<=60) {g bo bp bv:Nat} (hg:w0.heap.size<=g) (ho:w0.heap.size<=bo) (hp:w0.heap.size<=bp) (hb:w0.heap.size<=bv) (n1:bo≠g) (n2:bp≠g) (n3:bv≠g) :
  ∀ f x,x<f->x<p.1.length->∀ (w:World) (k:Int) (o:List Int),Bw w0 w->bo<w.heap.size->bp<w.heap.size->bv<w.heap.size->w.cell? ⟨bo,0,none⟩=some (sl g p.1.length)->w.cell? ⟨bp,0,none⟩=some (.slice A p.1.length c)->w.cell? ⟨bv,0,none⟩=some (Zme bo bp bv)->Own w g 3 (ints o)->o.length=p.1.length ->
   CL 248 #[.int .i64 x,.int .i64 k,.pointer (some ⟨bo,0,none⟩),.pointer (some ⟨bp,0,none⟩),.pointer (some ⟨bv,0,none⟩)] w λe w'=>e=.returned (.tuple #[])/\Own w' g 3 (ints (Zcf (Zce p) f x k o))/\Only w.heap.size [g] w w':=by
 intro f
 induction f with
 | zero=>intro x hx;omega
 | succ f ih =>
  intro x hxf hxn w k o hB lo lp lv co cp cv hO hol
  have IH:=hdQ ih
  clear ih
  have HB:=hdQ hB
  have HO:=hdQ hO
  have hgl:=hO.lt
  have hz:=hB.size
  obtain ⟨b,off,A',c',rfl,hbh,hs,hr,x0,x1,x2,x3⟩:=hN.2.2 x hxn
  have nb:¬ b=g:=qo
  have d3:=(hB.cell (p:=⟨b,off+x*4+3,none⟩) hbh).trans x3
  have HR:=hdQ hr
  have HAR:=qh (∀ t (ht:t<p.1[x].2.2.2.length),∃ m:Nat,p.1[x].2.2.2[t]=m/\m<x/\∃ h':t<((Zce p).getD x []).length,((Zce p).getD x [])[t]=m) (λt ht=>arg_is hv hxn ht)
  have HGL:=qh (((Zce p).getD x []).length=p.1[x].2.2.2.length) (by rw [Zn2 hxn,List.length_map])
  have ha3:p.1[x].2.2.2.length<=3:=(Zek (Zct hv hxn)).1
  have HVF:=qh (Zcf (Zce p) (f+1) x k o=((Zce p).getD x []).foldl (λo a=>Zcf (Zce p) f a k o) (o.set x k)) rfl
  generalize p.1[x].2.2.2=args at *
  have e1:w.cell? ⟨g,x,none⟩=some (.int .i64 (o.getD x 0)):=by rw [hO.cell,Zfo qo]
  have e3:w.frozen? ⟨g,x,none⟩=false:=hO.frozen _
  generalize o.getD x 0=old at *
  have i1:(x:Int)<p.1.length:=qo
  have i2:(0:Int)<=x:=qo
  have HN:=hdQ hN
  have m1:¬ g=bo:=λe=>n1 e.symm
  have m2:¬ g=bp:=λe=>n2 e.symm
  have m3:¬ g=bv:=λe=>n3 e.symm
  have mb:¬ g=b:=λe=>nb e.symm
  clear x0 x1 x2 x3 hs hr hB hO hN
  go_enter Tryz.func248,Tryz.ntmps248
  go_wp2_with fail
  go_loopw [8,20] (λ_ i_ wr=>∃ t:Nat,t<=args.length/\i_=.int .i64 t/\Own wr g 3 (ints ((((Zce p).getD x []).take t).foldl (λo a=>Zcf (Zce p) f a k o) (o.set x k)))/\Only w.heap.size [g] w wr) (λ_ i_ _=>args.length-(RowKit.intOf i_).toNat)
  case atStart=>exact ⟨0,Nat.zero_le _,rfl,by rw [List.take_zero,List.foldl_nil,<- Znz];exact Own.set_ HO.out x _,Only.setCell (Only.refl _ _ _) qs _⟩
  case round =>
   obtain ⟨t,ht,rfl,hu,hOn⟩:=hrel
   obtain ⟨wj,rfl⟩:=qe wr
   have hzj:=hOn.size
   have HU:=hdQ hu
   have HON:=hdQ hOn
   have HBJ:=qh (Bw w0 wj) (HB.out.trans (hOn.below hz (by simp;omega)))
   have q1:=(hOn.cell bo lo (by simpa using n1)).1 0
   have q2:=(hOn.cell bp lp (by simpa using n2)).1 0
   have q3:=(hOn.cell bv lv (by simpa using n3)).1 0
   rw [co] at q1
   rw [cp] at q2
   rw [cv] at q3
   clear hu hOn
   by_cases hlt:t<args.length
   ·obtain ⟨b2,o2,rfl,hbh2,hcell2⟩:=(RS.step HBJ.out HR.out).open_.2.2 qo
    have e4:wj.cell? ⟨b2,o2+t,none⟩=some (.int .i64 args[t]):=by rw [hcell2 t qo,Zd3 hlt]
    obtain ⟨m,hm,hmi,h',hga⟩:=HAR.out t hlt
    rw [hm] at e4
    have HC:Hid (CL 248 #[.int .i64 m,.int .i64 k,.pointer (some ⟨bo,0,none⟩),.pointer (some ⟨bp,0,none⟩),.pointer (some ⟨bv,0,none⟩)] wj λe w'=>e=.returned (.tuple #[])/\Own w' g 3 (ints (Zcf (Zce p) f m k ((((Zce p).getD x []).take t).foldl (λo a=>Zcf (Zce p) f a k o) (o.set x k))))/\Only wj.heap.size [g] wj w'):=hdQ (IH.out m qo qo wj k _ HBJ.out qo qo qo q1 q2 q3 HU.out (by
     have:∀ (l:List Nat) (o':List Int),(l.foldl (λo a=>Zcf (Zce p) f a k o) o').length=o'.length:=by
      intro l
      induction l with
      | nil=>intro o';rfl
      | cons a l ihl=>intro o';rw [List.foldl_cons,ihl,Zgs]
     rw [this,List.length_set];exact hol))
    have HNX:=qh ((((Zce p).getD x []).take (t+1)).foldl (λo a=>Zcf (Zce p) f a k o) (o.set x k)=Zcf (Zce p) f m k ((((Zce p).getD x []).take t).foldl (λo a=>Zcf (Zce p) f a k o) (o.set x k))) (by rw [List.take_succ_eq_append_getElem h',List.foldl_append,hga];rfl)
    have j1:(t:Int)<args.length:=qo
    clear hcell2 hm hga
    go_wp2_with (first|(refine HC.out.mono ?_;rintro e w' ⟨rfl,hu,hOn⟩;have HU3:=hdQ hu;have HON3:=hdQ (HON.out.trans hOn hzj (λx h=>h));clear hu hOn)|fail)
    go_roundw
    case rel=>exact ⟨t+1,qo,qg,by rw [HNX.out];exact HU3.out,HON3.out⟩
    case measure=>exact qn
   ·obtain rfl:t=args.length:=by omega
    have HUX:=qh (Own wj g 3 (ints (Zcf (Zce p) (f+1) x k o))) (by rw [HVF.out];have:=HU.out;rw [List.take_of_length_le (by rw [HGL.out];exact Nat.le_refl _)] at this;exact this)
    go_wp2_with fail
    exact bodyPost_end (v:=.tuple #[]) (by simp [results,Tryz.results248,go_sem]) rfl ⟨rfl,HUX.out,HON.out⟩
theorem I_owners {A A2:OA} {c c2:Nat} {p:Zag} (w:World) (h:Zcd w A c A2 c2 p) (hv:Zas p=true) :
  CL 199 #[Zbz A p.1.length c A2 p.2.length c2] w λe w'=>∃ g,e=.returned (sl g p.1.length)/\Own w' g 3 (ints (Zlv p))/\w.heap.size<=g/\Bw w w':=by
 have H0:=hdQ h
 have HV:=hdQ hv
 have h1:=Zdi hv
 have h2:=Zda hv
 have HVIS:Hid (∀ {g bo bp bv:Nat} (hg:w.heap.size<=g) (ho:w.heap.size<=bo) (hp:w.heap.size<=bp) (hb:w.heap.size<=bv) (n1:bo≠g) (n2:bp≠g) (n3:bv≠g),∀ x,x<p.1.length->∀ (wx:World) (k:Int) (o:List Int),Bw w wx->bo<wx.heap.size->bp<wx.heap.size->bv<wx.heap.size->wx.cell? ⟨bo,0,none⟩=some (sl g p.1.length)->wx.cell? ⟨bp,0,none⟩=some (.slice A p.1.length c)->wx.cell? ⟨bv,0,none⟩=some (Zme bo bp bv)->Own wx g 3 (ints o)->o.length=p.1.length ->
   CL 248 #[.int .i64 x,.int .i64 k,.pointer (some ⟨bo,0,none⟩),.pointer (some ⟨bp,0,none⟩),.pointer (some ⟨bv,0,none⟩)] wx λe w'=>e=.returned (.tuple #[])/\Own w' g 3 (ints (Zcf (Zce p) p.1.length x k o))/\Only wx.heap.size [g] wx w'):=hdQ (λhg ho hp hb n1 n2 n3 x hx=>I_visit w h.1 (Zbj hv) (Zdi hv) hg ho hp hb n1 n2 n3 p.1.length x hx hx)
 clear h hv
 have hmk:∀ wx:World,(Instr.makeSlice 24 (.int .i64 p.1.length) (.int .i64 p.1.length)).run Tryz.prog wx=.ok (.slice (some ⟨wx.heap.size,0,none⟩) p.1.length p.1.length) (wx.alloc (.cells (madeCells #[Value.int .i64 0] p.1.length) 3)):=by
  intro wx
  have:=Zss (P:=Tryz.prog) 24 3 _ 1 8 Tryz.underlying24 T.infoInt p.1.length qo qo wx
  simp only [Nat.mul_one] at this
  exact this
 have HZ:=qh ((madeCells #[Value.int .i64 0] p.1.length).toList=ints (Zej (Zce p) p.1.length (Zdx p) 0)) (by rw [Zej,Zgr])
 go_enter Tryz.func199,Tryz.ntmps199
 go_wp2_with fail
 clear hmk
 go_loopw [5,6,15] (λ_ _ i wr=>∃ j:Nat,j<=p.2.length/\i=.int .i64 j/\Own wr w.heap.size 62 [.slice A p.1.length c,.slice A2 p.2.length c2]/\Own wr (w.heap.size+1) 3 (ints (Zej (Zce p) p.1.length (Zdx p) j))/\Own wr (w.heap.size+1+1) 24 [sl (w.heap.size+1) p.1.length]/\Own wr (w.heap.size+1+1+1) 260 [Zme (w.heap.size+1+1) w.heap.size (w.heap.size+1+1+1)]/\Bw w wr) (λ_ _ i _=>p.2.length-(RowKit.intOf i).toNat)
 case atStart =>
  refine ⟨0,Nat.zero_le _,rfl, ?_, ?_, ?_, ?_,bll⟩
  ·first|(refine Own.alloc (Own.alloc (Own.alloc (Own.at_new ?_) _) _) _;rfl)|fail
  ·rw [<- HZ.out];first|(refine Own.alloc (Own.alloc (Own.at_new ?_) _) _;simp)|fail
  ·first|(refine Own.alloc (Own.at_new (cs := #[_]) ?_) _;simp)|fail
  ·first|(refine Own.at_new (cs := #[_]) ?_;simp)|fail
 case round =>
  obtain ⟨j,hj,rfl,hp,hu,ho,hf,hb⟩:=hrel
  obtain ⟨wo,rfl⟩:=qe wr
  have hz:=hb.size
  have hl:=hf.lt
  have HP:=hdQ hp
  have HU:=hdQ hu
  have HO:=hdQ ho
  have HF:=hdQ hf
  have HB:=hdQ hb
  have p1:wo.cell? ⟨w.heap.size,1,none⟩=some (.slice A2 p.2.length c2):=hp.cell 1
  have p2:wo.cell? ⟨w.heap.size+1+1,0,none⟩=some (sl (w.heap.size+1) p.1.length):=ho.cell 0
  have p3:wo.cell? ⟨w.heap.size+1+1+1,0,none⟩=some (Zme (w.heap.size+1+1) w.heap.size (w.heap.size+1+1+1)):=hf.cell 0
  have HOL:=qh ((Zej (Zce p) p.1.length (Zdx p) j).length=p.1.length) (Zgi _ _ _ _)
  clear hp hb hu ho hf HZ
  by_cases hlj:j<p.2.length
  ·obtain ⟨b,o,rfl,hbh,hs,x0,x1⟩:=H0.out.2.2.2 j hlj
   have d0:=(HB.out.cell (p:=⟨b,o+j*2,none⟩) hbh).trans x0
   have d1:=(HB.out.cell (p:=⟨b,o+j*2+1,none⟩) hbh).trans x1
   obtain ⟨m,hm,hmn,hr⟩:=Zwl HV.out hlj
   rw [hm] at d1
   have HNX:=qh (Zej (Zce p) p.1.length (Zdx p) (j+1)=Zcf (Zce p) p.1.length m j (Zej (Zce p) p.1.length (Zdx p) j)) (by rw [Zej,hr])
   have HVC:=qh (∀ wx,Bw w wx->Own wx w.heap.size 62 [.slice A p.1.length c,.slice (some ⟨b,o,none⟩) p.2.length c2]->Own wx (w.heap.size+1) 3 (ints (Zej (Zce p) p.1.length (Zdx p) j))->Own wx (w.heap.size+1+1) 24 [sl (w.heap.size+1) p.1.length]->Own wx (w.heap.size+1+1+1) 260 [Zme (w.heap.size+1+1) w.heap.size (w.heap.size+1+1+1)] ->
     CL 248 #[.int .i64 m,.int .i64 j,.pointer (some ⟨w.heap.size+1+1,0,none⟩),.pointer (some ⟨w.heap.size,0,none⟩),.pointer (some ⟨w.heap.size+1+1+1,0,none⟩)] wx λe w'=>e=.returned (.tuple #[])/\Own w' (w.heap.size+1) 3 (ints (Zej (Zce p) p.1.length (Zdx p) (j+1)))/\Only wx.heap.size [w.heap.size+1] wx w') (λwx hb h1 h2 h3 h4=>by
    rw [HNX.out]
    exact HVIS.out qo qo qo qo qo qo qo m hmn wx j _ hb h3.lt h1.lt h4.lt (h3.cell 0) (h1.cell 0) (h4.cell 0) h2 HOL.out)
   have i1:(j:Int)<p.2.length:=qo
   generalize hnm:p.2[j].1=nm at *
   clear x0 x1 hm hs hnm hr
   go_wp2_with (first|(refine (HVC.out _ bll (owx HP.out) (owx HU.out) (owx HO.out) (owx HF.out)).mono ?_;rintro e w' ⟨rfl,hu,hOn⟩;have HU3:=hdQ hu;have HON3:=hdQ hOn;clear hu hOn)|fail)
   have HP3:=qh (Own w' w.heap.size 62 [.slice A p.1.length c,.slice (some ⟨b,o,none⟩) p.2.length c2]) (HON3.out.own (owx HP.out) omm (by simp<;>omega))
   have HO3:=qh (Own w' (w.heap.size+1+1) 24 [sl (w.heap.size+1) p.1.length]) (HON3.out.own (owx HO.out) omm (by simp<;>omega))
   have HF3:=qh (Own w' (w.heap.size+1+1+1) 260 [Zme (w.heap.size+1+1) w.heap.size (w.heap.size+1+1+1)]) (HON3.out.own (owx HF.out) omm (by simp<;>omega))
   have HB3:=qh (Bw w w') (Below.trans bll (HON3.out.below omm qs))
   (try go_wp2_with fail)
   go_roundw
   case rel=>exact ⟨j+1,qo,qg,HP3.out,HU3.out,HO3.out,HF3.out,HB3.out⟩
   case measure=>exact qn
  ·obtain rfl:j=p.2.length:=by omega
   have HUE:=qh (Own wo (w.heap.size+1) 3 (ints (Zlv p))) (by have:=HU.out;rw [<- ownP_I HV.out];unfold ownI;rw [Zb6,show (Zdx p).length=p.2.length by simp [Zdx]];exact this)
   go_wp2_with fail
   go_ret
   exact ⟨_,rfl,HUE.out,qo,HB.out⟩
theorem S_Arity (l:List UInt8) (w:World) :
  CL 178 #[str l] w λe w'=>e=.returned (.int .i64 (arityF l))/\w=w':=by
 go_enter Tryz.func178,Tryz.ntmps178
 go_wp2_with fail
 all_goals
  go_ret
  exact ⟨Zd2 (by simp only [beq_iff_eq,beq_eq_false_iff_ne] at *;unfold arityF;simp_all),rfl⟩
theorem Zyl (l:List UInt8) (w:World) :
  CL 249 #[str l] w λe w'=>e=.returned (.int .i64 (arityF l))/\w=w':=by
 go_enter Tryz.func249,Tryz.ntmps249
 go_wp2_with fail
 all_goals
  go_ret
  exact ⟨Zd2 (by simp only [beq_iff_eq,beq_eq_false_iff_ne] at *;unfold arityF;simp_all),rfl⟩
theorem Zvr {l:List UInt8} {n:Int} (h:arityF l=n) (w:World):CL 249 #[str l] w λe w'=>e=.returned (.int .i64 n)/\w=w':=by subst h;exact Zyl l w
theorem Zee {l:List UInt8} {n:Int} (h:arityF l=n) (w:World):CL 178 #[str l] w λe w'=>e=.returned (.int .i64 n)/\w=w':=by subst h;exact S_Arity l w
theorem Zjm (l:List UInt8) (w:World) :
  CL 203 #[str l] w λe w'=>e=.returned (.bool (Zg6 l))/\w=w':=by
 go_enter Tryz.func203,Tryz.ntmps203
 go_wp2_with fail
 all_goals
  go_ret
  exact ⟨Zaf (by simp only [beq_iff_eq,beq_eq_false_iff_ne] at *;unfold Zg6;simp_all),rfl⟩
abbrev varL:List (List UInt8):=[[117],[118],[120],[121],[122],[116]]
theorem Zpv (l:List UInt8):Zg6 l=varL.any (· == l):=by
 unfold Zg6
 rw [Bool.eq_iff_iff]
 simp only [decide_eq_true_eq,List.any_cons,List.any_nil,Bool.or_false,Bool.or_eq_true,beq_iff_eq]
 constructor
 ·intro h;rcases h with h|h|h|h|h|h<;>subst h<;>simp
 ·intro h;rcases h with h|h|h|h|h|h<;>subst h<;>simp
theorem Ze6 (l:List UInt8) (w:World) :
  CR 179 #[str l] w ((.bool (Zg6 l))):=by
 have HG0:=qh (Own (w.alloc (.cells #[.string ⟨#[117]⟩,.string ⟨#[118]⟩,.string ⟨#[120]⟩,.string ⟨#[121]⟩,.string ⟨#[122]⟩,.string ⟨#[116]⟩] 9)) w.heap.size 9 (Zck varL)) (Own.new w _ #[_,_,_,_,_,_])
 go_enter Tryz.func179,Tryz.ntmps179
 go_wp2_with fail
 go_loop [4,7] (λ_ i=>∃ k:Nat,k<=varL.length/\i=.int .i64 k/\(varL.take k).any (· == l)=false) (λ_ i=>6-(RowKit.intOf i).toNat)
 case atStart=>exact ⟨0,Nat.zero_le _,rfl,rfl⟩
 case round =>
  obtain ⟨k,hk,rfl,ha⟩:=hrel
  have HA:=hdQ ha
  clear ha
  by_cases hlt:k<varL.length
  ·have HSU:=qh ((varL.take (k+1)).any (· == l)=((varL.take k).any (· == l)||(varL[k]==l))) (by rw [List.take_succ_eq_append_getElem hlt,List.any_append];simp)
   have HMM:=qh (varL[k]==l->varL.any (· == l)=true) (λh=>List.any_eq_true.2 ⟨_,List.getElem_mem hlt,h⟩)
   have c1:=HG0.out.cell k
   rw [Zit hlt] at c1
   generalize varL[k]=x at *
   have i1:(k:Int)<6:=by have:k<6:=hlt;omega
   have i2:(0:Int)<=k:=qo
   cases he:x==l with
   | true =>
    have HF:=qh (Zg6 l=true) (by rw [Zpv];exact HMM.out he)
    go_wp2_with fail
    go_ret
    exact ⟨Zaf HF.out.symm,bll⟩
   | false =>
    have HK:=qh ((varL.take (k+1)).any (· == l)=false) (by rw [HSU.out,HA.out,he];rfl)
    go_wp2_with fail
    go_round
    case rel=>exact ⟨k+1,hlt,qg,HK.out⟩
    case measure=>exact qn
  ·obtain rfl:k=6:=by have:varL.length=6:=rfl;omega
   have HF:=qh (Zg6 l=false) (by rw [Zpv];exact HA.out)
   go_wp2_with fail
   go_ret
   exact ⟨Zaf HF.out.symm,bll⟩
theorem Zig {A A2:OA} {c c2:Nat} {p:Zag} {name:List UInt8} {before:Int} (w:World) (h:Zc3 w A2 c2 p.2) (h2:p.2.length<=60) :
  CR 180 #[Zbz A p.1.length c A2 p.2.length c2,str name,.int .i64 before] w ((.int .i64 (lastTo p name before p.2.length))):=by
 have H0:=hdQ h
 clear h
 go_enter Tryz.func180,Tryz.ntmps180
 go_wp2_with fail
 go_loopw [7,8,9,13] (λv _ _ i wr=>∃ j:Nat,j<=p.2.length/\i=.int .i64 j/\v=.int .i64 (lastTo p name before j)/\Bw w wr) (λ_ _ _ i _=>p.2.length-(RowKit.intOf i).toNat)
 case atStart=>exact ⟨0,Nat.zero_le _,rfl,rfl,bll⟩
 case round =>
  obtain ⟨j,hj,rfl,rfl,hb⟩:=hrel
  obtain ⟨wi,rfl⟩:=qe wr
  have hz:=hb.size
  have HB:=hdQ hb
  by_cases hlj:j<p.2.length
  ·obtain ⟨b,o,rfl,hbh,hs,x0,x1⟩:=H0.out.2.2 j hlj
   have d0:=(HB.out.cell (p:=⟨b,o+j*2,none⟩) hbh).trans x0
   have d1:=(HB.out.cell (p:=⟨b,o+j*2+1,none⟩) hbh).trans x1
   have HLS:=hdQ (Zkr (name:=name) (before:=before) hlj)
   obtain ⟨⟨nm,rt⟩,hx⟩:∃ x,p.2[j]=x:=⟨_,rfl⟩
   rw [hx] at d0 d1 hs HLS
   (try dsimp only at d0 d1 hs)
   have i1:(j:Int)<p.2.length:=qo
   have i2:(0:Int)<=j:=qo
   generalize lastTo p name before j=lv at *
   clear x0 x1 hs hx hb
   by_cases hbf:(j:Int)<before
   ·cases hn:nm==name with
    | true =>
     have HK:=qh (lastTo p name before (j+1)=j) (by rw [HLS.out,if_pos ⟨hbf,by simpa using hn⟩])
     go_wp2_with fail
     go_roundw
     case rel=>exact ⟨j+1,qo,qg,by rw [HK.out],bll⟩
     case measure=>exact qn
    | false =>
     have HK:=qh (lastTo p name before (j+1)=lv) (by rw [HLS.out,if_neg (λhh=>by rw [beq_eq_false_iff_ne] at hn;exact hn hh.2)])
     go_wp2_with fail
     go_roundw
     case rel=>exact ⟨j+1,qo,qg,by rw [HK.out],bll⟩
     case measure=>exact qn
   ·have HK:=qh (lastTo p name before (j+1)=lv) (by rw [HLS.out,if_neg (λhh=>hbf hh.1)])
    go_wp2_with fail
    go_roundw
    case rel=>exact ⟨j+1,qo,qg,by rw [HK.out],bll⟩
    case measure=>exact qn
  ·obtain rfl:j=p.2.length:=by omega
   go_wp2_with fail
   go_ret
   exact ⟨rfl,HB.out⟩
theorem Znx (p:Zag) (name:List UInt8) (before:Int):decide (0<=lastTo p name before p.2.length)=has p name before:=by
 unfold has
 rw [Bool.eq_iff_iff,decide_eq_true_eq]
 exact Zmy (Nat.le_refl _)
theorem Zmu {p:Zag} {k:Nat} (hk:k<p.1.length) (h:Zf5 p k p.1[k]=false):Zb3 p p.1.length=false:=by
 unfold Zb3
 rw [List.take_length,List.all_eq_false]
 exact ⟨(p.1[k],k),List.mk_mem_zipIdx_iff_getElem?.2 (List.getElem?_eq_getElem hk),by simp [h]⟩
theorem Zjg {p:Zag} {k:Nat} (hk:k<p.1.length) (h:Zeo p.1[k]=false):Zb8 p p.1.length=false:=by
 unfold Zb8
 rw [List.take_length,List.all_eq_false]
 exact ⟨p.1[k],List.getElem_mem hk,by simp [h]⟩
theorem Zqc {p:Zag} {k:Nat} (hk:k<p.2.length) (h:Zk4 p k p.2[k]=false):Zfr p p.2.length=false:=by
 unfold Zfr
 rw [List.take_length,List.all_eq_false]
 exact ⟨(p.2[k],k),List.mk_mem_zipIdx_iff_getElem?.2 (List.getElem?_eq_getElem hk),by simp [h]⟩
theorem Zs7 {p:Zag}:(Zlv p).length=p.1.length:=by unfold Zlv ownS;rw [Zfp,Zc8,Zb6]
theorem Znv (p:Zag) (k:Nat) (name:List UInt8) (num:Int) (l:List Int):Zf5 p k (2,name,num,l)=(Zg6 name||has p name ((Zlv p).getD k 0)):=rfl
theorem Zrf (p:Zag) (k:Nat) (name:List UInt8) (num:Int) (l:List Int):Zf5 p k (8,name,num,l)=decide (0<=arityF name):=rfl
theorem Zxb {p:Zag} {k:Nat} {op:Int} {name:List UInt8} {num:Int} {l:List Int} (h2:op≠2) (h8:op≠8):Zf5 p k (op,name,num,l)=true:=by unfold Zf5;rw [if_neg h2,if_neg h8]
theorem Zn8 (name:List UInt8) (num:Int) (l:List Int):Zeo (8,name,num,l)=decide (arityF name=l.length):=rfl
theorem Ztm {op:Int} {name:List UInt8} {num:Int} {l:List Int} (h8:op≠8):Zeo (op,name,num,l)=true:=by unfold Zeo;rw [if_neg h8]
theorem op3_cases (op:Int):op=2∨op=8∨(op≠2/\op≠8):=qo
end
section
set_option maxRecDepth 100000
open Go.RowKit Go.Lib Go.Maps Go.WideMaps
theorem keyS:Keyed Tryz.prog 9:=string_keyed Tryz.underlying9
theorem Zon (w:World):(zeroValue 3).run Tryz.prog w=.ok (.int .i64 0) w:=kr
abbrev Zd9 (w:World) (B n:Nat) (D:DataW Unit):Prop:=w.ownsMap Tryz.prog 9 (plainElem Tryz.prog 3) B n D
theorem Zny {l:List UInt8} (h:l.length<=maxLen):keyOf Tryz.prog 9 (str l)=some (.string l):=by
 have:=keyOf_string_mk Tryz.underlying9 (s:=⟨l.toArray⟩) h
 simpa using this
theorem Zd9.step {w w':World} {B n:Nat} {D:DataW Unit} (h:Zd9 w B n D) (hb:Bw w w'):Zd9 w' B n D :=
 World.ownsMap.kept h (row:=none) ⟨hb.os,hb.tape,hb.output,hb.size,λi hi _=>hb.block i hi⟩ qs
structure IsFirst (p:Zag) (k:Nat) (D:DataW Unit):Prop where
 map:IsMap D
 has:∀ name,Maps.has D (.string name)=(Zbg p name k).isSome
 at_:∀ name j,Zbg p name k=some j->∀ z,D.atKey (.string name) z=.lit (.int .i64 j)
theorem IsFirst.zero (p:Zag):IsFirst p 0 (.map []):=⟨isMap_empty,λ_=>rfl,λ_ _ h=>by cases h⟩
theorem Ze0 {p:Zag} {name:List UInt8} {k:Nat} (h:k<p.2.length):Zbg p name (k+1)=match Zbg p name k with|some j=>some j|none=>if p.2[k].1=name then some k else none:=by
 rw [Zbg]
 simp only [List.getElem?_eq_getElem h,Option.map_some,Option.some.injEq]
 rfl
theorem IsFirst.keep {p:Zag} {k:Nat} {D:DataW Unit} (h:IsFirst p k D) (hk:k<p.2.length) (hs:(Zbg p p.2[k].1 k).isSome=true):IsFirst p (k+1) D:=by
 have key:∀ name,Zbg p name (k+1)=Zbg p name k:=by
  intro name
  rw [Ze0 hk]
  cases hf:Zbg p name k with
  | some j=>rfl
  | none =>
   have:p.2[k].1≠name:=λe=>by rw [e,hf] at hs;cases hs
   simp [this]
 exact ⟨h.map,λname=>by rw [key];exact h.has name,λname j hj=>by rw [key] at hj;exact h.at_ name j hj⟩
theorem IsFirst.put {p:Zag} {k:Nat} {D:DataW Unit} (h:IsFirst p k D) (hk:k<p.2.length) (hs:(Zbg p p.2[k].1 k).isSome=false):IsFirst p (k+1) (D.put (.string p.2[k].1) (.lit (.int .i64 k))):=by
 have hn:Zbg p p.2[k].1 k=none:=by
  cases hf:Zbg p p.2[k].1 k with
  | none=>rfl
  | some j=>rw [hf] at hs;cases hs
 refine ⟨h.map.put _ _,λname=>?_,λname j hj z=>?_⟩
 ·by_cases e:name=p.2[k].1
  ·subst e
   rw [has_put_same h.map (show WideAt.IsKeyLit (.string _) from trivial),Ze0 hk,hn];simp
  ·have ne:(Lit.string name) ≠ .string p.2[k].1:=λe'=>by injection e' with e';exact e e'
   rw [has_put_other ne,h.has name,Ze0 hk]
   cases hf:Zbg p name k with
   | some j=>rfl
   | none=>rw [if_neg (λe'=>e e'.symm)]
 ·rw [Ze0 hk] at hj
  by_cases e:name=p.2[k].1
  ·subst e
   rw [hn] at hj
   simp at hj
   subst hj
   rw [atKey_put_same h.map (show WideAt.IsKeyLit (.string _) from trivial)]
  ·have ne:(Lit.string name) ≠ .string p.2[k].1:=λe'=>by injection e' with e';exact e e'
   rw [atKey_put_other ne]
   cases hf:Zbg p name k with
   | some i =>
    rw [hf] at hj
    obtain rfl:=Option.some.inj hj
    exact h.at_ name i hf z
   | none =>
    rw [hf] at hj
    rw [if_neg (λe'=>e e'.symm)] at hj
    cases hj
set_option maxHeartbeats 16000000 in
theorem Zvm {A A2:OA} {c c2:Nat} {p:Zag} (w:World) (h:Zc3 w A2 c2 p.2) (h2:p.2.length<=60) :
  CL 198 #[Zbz A p.1.length c A2 p.2.length c2] w λe w'=>∃ B D,e=.returned (.map (some B))/\Zd9 w' B p.2.length D/\IsFirst p p.2.length D/\w.heap.size<=B/\Bw w w':=by
 have hmm := @run_makeMap Tryz.prog
 have H0:=hdQ h
 clear h
 go_enter Tryz.func198,Tryz.ntmps198
 go_wp2_with fail
 go_loopw [4,5,6,7,12] (λ_ _ _ _ i wr=>∃ (j:Nat) (D:DataW Unit),j<=p.2.length/\i=.int .i64 j/\Zd9 wr (w.heap.size+1) j D/\IsFirst p j D/\Bw w wr) (λ_ _ _ _ i _=>p.2.length-(RowKit.intOf i).toNat)
 case atStart=>exact ⟨0,_,Nat.zero_le _,rfl,by have:=World.ownsMap_made (H:=Unit) (w.alloc (.cells #[.slice A p.1.length c,.slice A2 p.2.length c2] 62)) Tryz.prog 9 (plainElem Tryz.prog 3);simp only [World.size_alloc] at this;exact this,IsFirst.zero p,bll⟩
 case round =>
  obtain ⟨j,D,hj,rfl,hm,hf,hb⟩:=hrel
  obtain ⟨wi,rfl⟩:=qe wr
  have hz:=hb.size
  have hml:=World.ownsMap.lt hm
  have HB:=hdQ hb
  have HM:=hdQ hm
  have HFI:=hdQ hf
  clear hb hf hm
  by_cases hlj:j<p.2.length
  ·obtain ⟨b,o,rfl,hbh,hs,x0,x1⟩:=H0.out.2.2 j hlj
   have d0:=(HB.out.cell (p:=⟨b,o+j*2,none⟩) hbh).trans x0
   have d1:=(HB.out.cell (p:=⟨b,o+j*2+1,none⟩) hbh).trans x1
   have HKP:=hdQ (HFI.out.keep hlj)
   have HPT:=hdQ (HFI.out.put hlj)
   obtain ⟨⟨nm,rt⟩,hx⟩:∃ x,p.2[j]=x:=⟨_,rfl⟩
   rw [hx] at d0 d1 hs HKP HPT
   (try dsimp only at d0 d1 hs)
   have HS:=hdQ hs
   have hkey:=Zny hs
   have HH:=hdQ (HFI.out.has nm)
   have i1:(j:Int)<p.2.length:=qo
   have i2:(0:Int)<=j:=qo
   have HMA:=qh (Zd9 (wi.alloc (.cells #[str nm,.int .i64 rt] 106)) (w.heap.size+1) j D) (World.ownsMap.alloc HM.out _)
   clear x0 x1 hs hx
   cases hhas:(Zbg p nm j).isSome with
   | true =>
    have HK:=hdQ (HKP.out hhas)
    have HHT:=qh (Maps.has D (.string nm)=true) (HH.out.trans hhas)
    go_wp2_with (first|(at_lookup;refine wpList_lookup_own_ok_int _ rfl _ _ 217 rfl 9 3 .i64 keyS Tryz.underlying217 Tryz.underlying3 (Zon _) (w.heap.size+1) j D rfl HMA.out _ _ rfl hkey ?_;intro cc hat hwc;rw [HHT.out];clear hat hwc)|fail)
    go_roundw
    case rel=>exact ⟨j+1,D,qo,qg,World.ownsMap.mono HMA.out qo,HK.out,bll⟩
    case measure=>exact qn
   | false =>
    have HK:=hdQ (HPT.out hhas)
    have HHT:=qh (Maps.has D (.string nm)=false) (HH.out.trans hhas)
    go_wp2_with (first|(at_lookup;refine wpList_lookup_own_ok_int _ rfl _ _ 217 rfl 9 3 .i64 keyS Tryz.underlying217 Tryz.underlying3 (Zon _) (w.heap.size+1) j D rfl HMA.out _ _ rfl hkey ?_;intro cc hat hwc;rw [HHT.out];clear hat hwc)|(at_mapUpdate;refine wpList_mapUpdate_own _ rfl _ _ _ 217 rfl 9 3 keyS Tryz.underlying217 _ (w.heap.size+1) j _ rfl HMA.out (by unfold maxLen;omega) _ _ _ rfl rfl hkey _ [] (plainElem_int Tryz.underlying3 (WalkArith.wf_i64 qo)) ?_;intro w1 hown1 hgrow1;have HM1:=hdQ hown1;have HB1:=qh (Bw w w1) (Below.grown bll hgrow1 (by simp;omega) (λj hj=>by cases hj;omega));clear hown1 hgrow1)|fail)
    go_roundw
    case rel=>exact ⟨j+1,_,qo,qg,HM1.out,HK.out,HB1.out⟩
    case measure=>exact qn
  ·obtain rfl:j=p.2.length:=by omega
   go_wp2_with fail
   go_ret
   exact ⟨_,D,rfl,HM.out,HFI.out,qo,HB.out⟩
def exT (op:Int):TypeId:=if op=2 then 262 else if op=8 then 263 else 264
theorem Zj1 {op:Int} {name:List UInt8} {num:Int} {A:OA} {n c:Nat} (w:World) :
  CR 201 #[Zg4 op name num A n c] w ((.iface (exT op) (Zg4 op name num A n c))):=by
 rcases op3_cases op with rfl|rfl|⟨h2,h8⟩
 ·go_enter Tryz.func201,Tryz.ntmps201
  go_wp2_with fail
  go_ret
  exact ⟨rfl,bll⟩
 ·go_enter Tryz.func201,Tryz.ntmps201
  go_wp2_with fail
  go_ret
  exact ⟨rfl,bll⟩
 ·have e2:(op==2)=false:=by simpa using h2
  have e8:(op==8)=false:=by simpa using h8
  have HT:=qh (exT op=264) (by unfold exT;rw [if_neg h2,if_neg h8])
  go_enter Tryz.func201,Tryz.ntmps201
  go_wp2_with fail
  go_ret
  exact ⟨by rw [HT.out];rfl,bll⟩
abbrev zNode:Value:=.agg #[.int .i64 0,.string ByteArray.empty,.int .i64 0,.slice none 0 0]
theorem ta_var (v:Value) (w:World):(Instr.typeAssert (.iface 262 v) 221 262 true).run Tryz.prog w=.ok (.tuple #[v,.bool true]) w:=kr
theorem Zv9 (v:Value) (w:World):(Instr.typeAssert (.iface 263 v) 221 263 true).run Tryz.prog w=.ok (.tuple #[v,.bool true]) w:=kr
theorem ta_cv (v:Value) (w:World):(Instr.typeAssert (.iface 263 v) 221 262 true).run Tryz.prog w=.ok (.tuple #[zNode,.bool false]) w:=kr
theorem ta_vc (v:Value) (w:World):(Instr.typeAssert (.iface 262 v) 221 263 true).run Tryz.prog w=.ok (.tuple #[zNode,.bool false]) w:=kr
theorem ta_pv (v:Value) (w:World):(Instr.typeAssert (.iface 264 v) 221 262 true).run Tryz.prog w=.ok (.tuple #[zNode,.bool false]) w:=kr
theorem ta_pc (v:Value) (w:World):(Instr.typeAssert (.iface 264 v) 221 263 true).run Tryz.prog w=.ok (.tuple #[zNode,.bool false]) w:=kr
theorem I_known2 {name:List UInt8} {num own:Int} {A:OA} {n c B:Nat} {p:Zag} {D:DataW Unit} (w:World) (hm:Zd9 w B p.2.length D) (hf:IsFirst p p.2.length D) (hs:name.length<=maxLen) :
  CR 200 #[.iface 262 (Zg4 2 name num A n c),.int .i64 own,.map (some B)] w ((.bool (Zg6 name||has p name own))):=by
 have t1:=ta_var
 have hkey:=Zny hs
 have hBl:=World.ownsMap.lt hm
 have HM:=hdQ hm
 have HMA:=qh (Zd9 (w.alloc (.cells #[.int .i64 2,str name,.int .i64 num,.slice A n c] 262)) B p.2.length D) (World.ownsMap.alloc hm _)
 have HFH:=hdQ (Zky (p:=p) (name:=name) own)
 have HH:=hdQ (hf.has name)
 have HAT:=hdQ (hf.at_ name)
 clear hm hf hs
 have HIV:=qh (∀ wx,CL 203 #[str name] wx λe w'=>e=.returned (.bool (Zg6 name))/\wx=w') (λwx=>Zjm name wx)
 cases hft:Zbg p name p.2.length with
 | none =>
  have HHF:=qh (Maps.has D (.string name)=false) (by rw [HH.out,hft];rfl)
  have HR:=qh (has p name own=false) (by rw [<- HFH.out,hft])
  go_enter Tryz.func200,Tryz.ntmps200
  go_wp2_with (first|(at_lookup;refine wpList_lookup_own_ok_int _ rfl _ _ 217 rfl 9 3 .i64 keyS Tryz.underlying217 Tryz.underlying3 (Zon _) B p.2.length D rfl HMA.out _ _ rfl hkey ?_;intro cc hat hwc;rw [HHF.out];clear hat hwc)|(go_at_call 203;refine (HIV.out _).mono ?_;rintro e w' ⟨rfl,rfl⟩)|fail)
  all_goals
   go_ret
   exact ⟨Zaf (by rw [HR.out];simp [*]),bll⟩
 | some j =>
  have HHF:=qh (Maps.has D (.string name)=true) (by rw [HH.out,hft];rfl)
  have HR:=qh (has p name own=decide ((j:Int)<own)) (by rw [<- HFH.out,hft])
  have HAJ:=hdQ (HAT.out j hft)
  clear hft
  by_cases hlt:(j:Int)<own
  ·go_enter Tryz.func200,Tryz.ntmps200
   go_wp2_with (first|(at_lookup;refine wpList_lookup_own_ok_int _ rfl _ _ 217 rfl 9 3 .i64 keyS Tryz.underlying217 Tryz.underlying3 (Zon _) B p.2.length D rfl HMA.out _ _ rfl hkey ?_;intro cc hat hwc;rw [HHF.out];rw [HAJ.out] at hat;injection hat with hat;injection hat with _ hat;subst hat;clear hwc)|(go_at_call 203;refine (HIV.out _).mono ?_;rintro e w' ⟨rfl,rfl⟩)|fail)
   all_goals
    go_ret
    exact ⟨Zaf (by rw [HR.out];simp [*]),bll⟩
  ·go_enter Tryz.func200,Tryz.ntmps200
   go_wp2_with (first|(at_lookup;refine wpList_lookup_own_ok_int _ rfl _ _ 217 rfl 9 3 .i64 keyS Tryz.underlying217 Tryz.underlying3 (Zon _) B p.2.length D rfl HMA.out _ _ rfl hkey ?_;intro cc hat hwc;rw [HHF.out];rw [HAJ.out] at hat;injection hat with hat;injection hat with _ hat;subst hat;clear hwc)|(go_at_call 203;refine (HIV.out _).mono ?_;rintro e w' ⟨rfl,rfl⟩)|fail)
   all_goals
    go_ret
    exact ⟨Zaf (by rw [HR.out];simp [*]),bll⟩
theorem I_known8 {name:List UInt8} {num own:Int} {A:OA} {n c B:Nat} (w:World) :
  CR 200 #[.iface 263 (Zg4 8 name num A n c),.int .i64 own,.map (some B)] w ((.bool (decide (0<=arityF name)))):=by
 have t1:=ta_cv
 have t2:=Zv9
 have HAR:=qh (∀ wx,CL 249 #[str name] wx λe w'=>e=.returned (.int .i64 (arityF name))/\wx=w') (λwx=>Zyl name wx)
 generalize arityF name=an at *
 go_enter Tryz.func200,Tryz.ntmps200
 go_wp2_with (first|(go_at_call 249;refine (HAR.out _).mono ?_;rintro e w' ⟨rfl,rfl⟩)|fail)
 go_ret
 exact ⟨Zaf (by first|rfl|simp),bll⟩
theorem I_known0 {op:Int} {name:List UInt8} {num own:Int} {A:OA} {n c B:Nat} (w:World) :
  CR 200 #[.iface 264 (Zg4 op name num A n c),.int .i64 own,.map (some B)] w ((.bool true)):=by
 have t1:=ta_pv
 have t2:=ta_pc
 go_enter Tryz.func200,Tryz.ntmps200
 go_wp2_with fail
 go_ret
 exact ⟨rfl,bll⟩
theorem Zvi {name:List UInt8} {num:Int} {A:OA} {n c:Nat} (w:World) :
  CR 202 #[.iface 263 (Zg4 8 name num A n c)] w ((.bool (decide (arityF name=n)))):=by
 have t2:=Zv9
 obtain ⟨an,han⟩:∃ n,arityF name=n:=⟨_,rfl⟩
 have HAR:=hdQ han
 rw [han]
 clear han
 have HE:=qh (((n:Int)==an)=decide (an=n)) (by rw [Bool.eq_iff_iff];simp;omega)
 go_enter Tryz.func202,Tryz.ntmps202
 go_wp2_with fail
 go_quiet ((first|(go_at_call 249;exact Zat (Zvr HAR.out _))|fail))
 go_wp2_with fail
 go_ret
 exact ⟨Zaf HE.out,bll⟩
theorem Zvk {op:Int} {name:List UInt8} {num:Int} {A:OA} {n c:Nat} (w:World) :
  CR 202 #[.iface 264 (Zg4 op name num A n c)] w ((.bool true)):=by
 have t2:=ta_pc
 go_enter Tryz.func202,Tryz.ntmps202
 go_wp2_with fail
 go_quiet (fail)
 go_wp2_with fail
 go_ret
 exact ⟨rfl,bll⟩
theorem Zvj {op:Int} {name:List UInt8} {num:Int} {A:OA} {n c:Nat} (w:World) :
  CR 202 #[.iface 262 (Zg4 op name num A n c)] w ((.bool true)):=by
 have t2:=ta_vc
 go_enter Tryz.func202,Tryz.ntmps202
 go_wp2_with fail
 go_quiet (fail)
 go_wp2_with fail
 go_ret
 exact ⟨rfl,bll⟩
theorem Zyi {op:Int} {name:List UInt8} {num:Int} {A:OA} {l:List Int} {c:Nat} (w:World) :
  CR 202 #[.iface (exT op) (Zg4 op name num A l.length c)] w ((.bool (Zeo (op,name,num,l)))):=by
 rcases op3_cases op with rfl|rfl|⟨h2,h8⟩
 ·exact Zvj w
 ·rw [Zn8];exact Zvi w
 ·rw [Ztm h8,show exT op=264 by unfold exT;rw [if_neg h2,if_neg h8]];exact Zvk w
theorem I_known {op:Int} {name:List UInt8} {num:Int} {A:OA} {l:List Int} {c B k:Nat} {p:Zag} {D:DataW Unit} (w:World) (hm:Zd9 w B p.2.length D) (hf:IsFirst p p.2.length D) (hs:name.length<=maxLen) :
  CR 200 #[.iface (exT op) (Zg4 op name num A l.length c),.int .i64 ((Zlv p).getD k 0),.map (some B)] w ((.bool (Zf5 p k (op,name,num,l)))):=by
 rcases op3_cases op with rfl|rfl|⟨h2,h8⟩
 ·rw [Znv];exact I_known2 w hm hf hs
 ·rw [Zrf];exact I_known8 w
 ·rw [Zxb h2 h8,show exT op=264 by unfold exT;rw [if_neg h2,if_neg h8]];exact I_known0 w
end
section
set_option maxRecDepth 100000
open Go.RowKit Go.Lib
set_option maxHeartbeats 16000000 in
theorem Zu7 {A A2:OA} {c c2:Nat} {p:Zag} (w:World) (h:Zcd w A c A2 c2 p) (hv:Zas p=true) :
  CL 177 #[Zbz A p.1.length c A2 p.2.length c2] w λe w'=>(∃ r:Int,e=.returned (.int .i64 r)/\decide (0<=r) = !(Zb3 p p.1.length))/\Bw w w':=by
 have H0:=hdQ h
 have HV:=hdQ hv
 have h1:=Zdi hv
 have h2:=Zda hv
 have HO0:=qh (∀ wx,Bw w wx->CL 228 #[Zbz A p.1.length c A2 p.2.length c2] wx λe w'=>∃ g,e=.returned (sl g p.1.length)/\Own w' g 3 (ints (Zlv p))/\wx.heap.size<=g/\Bw wx w') (λwx hb=>Zrs wx (h.step hb) hv)
 have HAS:=qh (∀ (name:List UInt8) (before:Int) wx,Bw w wx->CR 180 #[Zbz A p.1.length c A2 p.2.length c2,str name,.int .i64 before] wx (.int .i64 (lastTo p name before p.2.length))) (λname before wx hb=>Zig wx ((h.step hb).2) h2)
 clear h hv
 go_enter Tryz.func177,Tryz.ntmps177
 go_wp2_with fail
 refine (HO0.out _ bll).mono ?_
 rintro e w1 ⟨g,rfl,ho,hg,hb1⟩
 have hz1:=hb1.size
 have HB1:=qh (Bw w w1) (Below.step hb1 bll qs)
 have HP1:=qh (Own w1 w.heap.size 62 [.slice A p.1.length c,.slice A2 p.2.length c2]) (Own.step hb1 (Own.new w _ #[_,_]))
 have HO1:=hdQ ho
 have r0:w1.cell? ⟨w.heap.size,0,none⟩=some (.slice A p.1.length c):=HP1.out.cell 0
 have r1:w1.cell? ⟨w.heap.size,1,none⟩=some (.slice A2 p.2.length c2):=HP1.out.cell 1
 (try simp at hg hz1)
 clear ho hb1 HO0
 go_wp2_with fail
 go_loopw [4,5,11] (λ_ _ i wr=>∃ k:Nat,k<=p.1.length/\i=.int .i64 k/\Zb3 p k=true/\Own wr w.heap.size 62 [.slice A p.1.length c,.slice A2 p.2.length c2]/\Own wr g 3 (ints (Zlv p))/\Bw w wr) (λ_ _ i _=>p.1.length-(RowKit.intOf i).toNat)
 case atStart=>exact ⟨0,Nat.zero_le _,rfl,rfl,HP1.out,HO1.out,HB1.out⟩
 case round =>
  obtain ⟨k,hk,rfl,ht,hp,hu,hb⟩:=hrel
  obtain ⟨wo,rfl⟩:=qe wr
  have hz:=hb.size
  have hl:=hp.lt
  have hgl:=hu.lt
  have HT:=hdQ ht
  have HP:=hdQ hp
  have HU:=hdQ hu
  have HB:=hdQ hb
  have p0:wo.cell? ⟨w.heap.size,0,none⟩=some (.slice A p.1.length c):=hp.cell 0
  have p1:wo.cell? ⟨w.heap.size,1,none⟩=some (.slice A2 p.2.length c2):=hp.cell 1
  clear hp hb ht r0 r1 HP1 HO1 HB1
  by_cases hlt:k<p.1.length
  ·obtain ⟨b,o,A',c',rfl,hbh,hs,hr,x0,x1,x2,x3⟩:=H0.out.1.2.2 k hlt
   have d0:=(HB.out.cell (p:=⟨b,o+k*4,none⟩) hbh).trans x0
   have d1:=(HB.out.cell (p:=⟨b,o+k*4+1,none⟩) hbh).trans x1
   have d2:=(HB.out.cell (p:=⟨b,o+k*4+2,none⟩) hbh).trans x2
   have d3:=(HB.out.cell (p:=⟨b,o+k*4+3,none⟩) hbh).trans x3
   have HTS:=hdQ (Zjd hlt)
   obtain ⟨⟨op,name,num,args⟩,hx⟩:∃ x,p.1[k]=x:=⟨_,rfl⟩
   rw [hx] at d0 d1 d2 d3 HTS
   (try dsimp only at d0 d1 d2 d3)
   have HX:=hdQ hx
   have e1:wo.cell? ⟨g,k,none⟩=some (.int .i64 ((Zlv p).getD k 0)):=by rw [hu.cell,Zfo (by rw [Zs7];exact hlt)]
   have i0:(k:Int)<p.1.length:=qo
   have i00:(0:Int)<=k:=qo
   have FIN:=qh (∀ b,Zf5 p k (op,name,num,args)=b->(b=false->Zb3 p p.1.length=false)/\(b=true->Zb3 p (k+1)=true)) (λb hb=>⟨λe=>Zmu hlt (by rw [HX.out,hb,e]),λe=>by rw [HTS.out,HT.out,hb,e];rfl⟩)
   generalize args.length=an at *
   clear x0 x1 x2 x3 hs hr hx hu
   have ng:¬ g=wo.heap.size:=qo
   rcases op3_cases op with rfl|rfl|⟨h2',h8'⟩
   ·
    generalize hov:(Zlv p).getD k 0=ov at *
    have HA1:=qh (∀ wx,Bw w wx->CR 180 #[Zbz (some ⟨b,o,none⟩) p.1.length c A2 p.2.length c2,str name,.int .i64 ov] wx (.int .i64 (lastTo p name ov p.2.length))) (λwx hb=>HAS.out name ov wx hb)
    have HLH:=hdQ (Znx p name ov)
    generalize lastTo p name ov p.2.length=lv at *
    cases hvr:Zg6 name with
    | true =>
     have HK:=hdQ ((FIN.out true (by rw [Znv,hvr];rfl)).2 rfl)
     have HIV:=qh (∀ wx,CR 179 #[str name] wx (.bool true)) (λwx=>by have:=Ze6 name wx;rw [hvr] at this;exact this)
     go_wp2_with fail
     refine wp_region_held_drew (S:=λw'=>w'.cell? ⟨wo.heap.size,0,none⟩=some (.int .i64 2)/\w'.cell? ⟨wo.heap.size,1,none⟩=some (str name)/\w'.cell? ⟨w.heap.size,0,none⟩=some (.slice (some ⟨b,o,none⟩) p.1.length c)/\w'.cell? ⟨w.heap.size,1,none⟩=some (.slice A2 p.2.length c2)/\w'.cell? ⟨g,k,none⟩=some (.int .i64 ov)) kr ?_ (λhHeld1=>?_)
     ·(try dsimp only);refine ⟨?_, ?_, ?_, ?_, ?_⟩<;>(go_simp;done)
     refine tkH 0 ?_;(try simp only [LO,Act.put])
     refine tkH 1 ?_;(try simp only [LO,Act.put])
     refine tkH 2 ?_;(try simp only [LO,Act.put])
     refine tkH 3 ?_;(try simp only [LO,Act.put])
     refine tkH 4 ?_;(try simp only [LO,Act.put])
     refine tkH 5 ?_;(try simp only [LO,Act.put])
     refine wpAnyH_ready (rs:=[6]) kr qs ?_
     refine AllReadyH.cons rfl (λK hK=>?_) AllReadyH.nil
     go_simp
     (go_at_call 179;(with_reducible refine (HIV.out _).mono ?_);rintro e wB ⟨rfl,hbB⟩;have hzB:=hbB.size;(try simp at hzB);(refine Zan hbB (wo.heap.size) ?_ ?_;(first|omega|(simp<;>omega));intro n0 nf0 nz0);(refine Zan hbB (w.heap.size) ?_ ?_;(first|omega|(simp<;>omega));intro m0 mf0 mz0);(refine Zan hbB (g) ?_ ?_;(first|omega|(simp<;>omega));intro q0 qf0 qz0))
     (try go_wp2_with fail)
     refine hK.out _ _ ?_ (λhHeld2=>?_)
     ·(try dsimp only);refine ⟨?_, ?_, ?_, ?_, ?_⟩<;>(first|(go_simp;done)|(simp [*];done))
     clear hK K hHeld1
     (try simp only [LO,Act.put])
     refine tkH 7 ?_;(try simp only [LO,Act.put])
     refine tkH 8 ?_;(try simp only [LO,Act.put])
     refine tkH 9 ?_;(try simp only [LO,Act.put])
     (refine wpAnyH_take (i:=10) (v:=undef) rfl kr kr kr (λ_ _ _ h=>h) (Or.inr ⟨by kernel_rfl,rfl⟩) ‹_› ?_);(try simp only [LO,Act.put])
     (refine wpAnyH_take (i:=11) (v:=undef) rfl kr kr kr (λ_ _ _ h=>h) (Or.inr ⟨by kernel_rfl,rfl⟩) ‹_› ?_);(try simp only [LO,Act.put])
     (refine wpAnyH_take (i:=12) (v:=undef) rfl kr kr kr (λ_ _ _ h=>h) (Or.inr ⟨by kernel_rfl,rfl⟩) ‹_› ?_);(try simp only [LO,Act.put])
     (refine wpAnyH_take (i:=13) (v:=undef) rfl kr kr kr (λ_ _ _ h=>h) (Or.inr ⟨by kernel_rfl,rfl⟩) ‹_› ?_);(try simp only [LO,Act.put])
     (refine wpAnyH_take (i:=14) (v:=undef) rfl kr kr kr (λ_ _ _ h=>h) (Or.inr ⟨by kernel_rfl,rfl⟩) ‹_› ?_);(try simp only [LO,Act.put])
     (refine wpAnyH_take (i:=15) (v:=undef) rfl kr kr kr (λ_ _ _ h=>h) (Or.inr ⟨by kernel_rfl,rfl⟩) ‹_› ?_);(try simp only [LO,Act.put])
     (refine wpAnyH_take (i:=16) (v:=undef) rfl kr kr kr (λ_ _ _ h=>h) (Or.inr ⟨by kernel_rfl,rfl⟩) ‹_› ?_);(try simp only [LO,Act.put])
     (refine wpAnyH_take (i:=17) (v:=undef) rfl kr kr kr (λ_ _ _ h=>h) (Or.inr ⟨by kernel_rfl,rfl⟩) ‹_› ?_);(try simp only [LO,Act.put])
     (refine wpAnyH_take (i:=18) (v:=undef) rfl kr kr kr (λ_ _ _ h=>h) (Or.inr ⟨by kernel_rfl,rfl⟩) ‹_› ?_);(try simp only [LO,Act.put])
     refine tkH 19 ?_;(try simp only [LO,Act.put])
     refine wpAnyH_done kr ?_ _
     all_goals
      go_wp2_with fail
      go_roundw
      case rel=>exact ⟨k+1,qo,qg,HK.out,(owx HP.out),(owx HU.out),bll⟩
      case measure=>exact qn
    | false =>
     have HIV:=qh (∀ wx,CR 179 #[str name] wx (.bool false)) (λwx=>by have:=Ze6 name wx;rw [hvr] at this;exact this)
     cases hhs:has p name ov with
     | true =>
      have HK:=hdQ ((FIN.out true (by rw [Znv,hvr,hov,hhs];rfl)).2 rfl)
      have hlv:¬ lv<0:=by have:=HLH.out;rw [hhs] at this;simpa using this
      have hlv2:0<=lv:=qo
      go_wp2_with fail
      go_region_held3 (λw'=>w'.cell? ⟨wo.heap.size,0,none⟩=some (.int .i64 2)/\w'.cell? ⟨wo.heap.size,1,none⟩=some (str name)/\w'.cell? ⟨w.heap.size,0,none⟩=some (.slice (some ⟨b,o,none⟩) p.1.length c)/\w'.cell? ⟨w.heap.size,1,none⟩=some (.slice A2 p.2.length c2)/\w'.cell? ⟨g,k,none⟩=some (.int .i64 ov))
       (first|go_keep|((try dsimp only);refine ⟨?_, ?_, ?_, ?_, ?_⟩<;>(go_simp;done)))
       (first|(go_at_call 179;(with_reducible refine (HIV.out _).mono ?_);rintro e wB ⟨rfl,hbB⟩;have hzB:=hbB.size;(try simp at hzB);(refine Zan hbB (wo.heap.size) ?_ ?_;(first|omega|(simp<;>omega));intro n0 nf0 nz0);(refine Zan hbB (w.heap.size) ?_ ?_;(first|omega|(simp<;>omega));intro m0 mf0 mz0);(refine Zan hbB (g) ?_ ?_;(first|omega|(simp<;>omega));intro q0 qf0 qz0))|(go_at_call 180;(with_reducible refine (HA1.out _ bll).mono ?_);rintro e wB ⟨rfl,hbB⟩;have hzB:=hbB.size;(try simp at hzB);(refine Zan hbB (wo.heap.size) ?_ ?_;(first|omega|(simp<;>omega));intro n0 nf0 nz0);(refine Zan hbB (w.heap.size) ?_ ?_;(first|omega|(simp<;>omega));intro m0 mf0 mz0);(refine Zan hbB (g) ?_ ?_;(first|omega|(simp<;>omega));intro q0 qf0 qz0))|fail)
      all_goals
       go_wp2_with fail
       go_roundw
       case rel=>exact ⟨k+1,qo,qg,HK.out,(owx HP.out),(owx HU.out),bll⟩
       case measure=>exact qn
     | false =>
      have HF:=hdQ ((FIN.out false (by rw [Znv,hvr,hov,hhs];rfl)).1 rfl)
      have hlv:lv<0:=by have:=HLH.out;rw [hhs] at this;simpa using this
      go_wp2_with fail
      go_region_held3 (λw'=>w'.cell? ⟨wo.heap.size,0,none⟩=some (.int .i64 2)/\w'.cell? ⟨wo.heap.size,1,none⟩=some (str name)/\w'.cell? ⟨w.heap.size,0,none⟩=some (.slice (some ⟨b,o,none⟩) p.1.length c)/\w'.cell? ⟨w.heap.size,1,none⟩=some (.slice A2 p.2.length c2)/\w'.cell? ⟨g,k,none⟩=some (.int .i64 ov))
       (first|go_keep|((try dsimp only);refine ⟨?_, ?_, ?_, ?_, ?_⟩<;>(go_simp;done)))
       (first|(go_at_call 179;(with_reducible refine (HIV.out _).mono ?_);rintro e wB ⟨rfl,hbB⟩;have hzB:=hbB.size;(try simp at hzB);(refine Zan hbB (wo.heap.size) ?_ ?_;(first|omega|(simp<;>omega));intro n0 nf0 nz0);(refine Zan hbB (w.heap.size) ?_ ?_;(first|omega|(simp<;>omega));intro m0 mf0 mz0);(refine Zan hbB (g) ?_ ?_;(first|omega|(simp<;>omega));intro q0 qf0 qz0))|(go_at_call 180;(with_reducible refine (HA1.out _ bll).mono ?_);rintro e wB ⟨rfl,hbB⟩;have hzB:=hbB.size;(try simp at hzB);(refine Zan hbB (wo.heap.size) ?_ ?_;(first|omega|(simp<;>omega));intro n0 nf0 nz0);(refine Zan hbB (w.heap.size) ?_ ?_;(first|omega|(simp<;>omega));intro m0 mf0 mz0);(refine Zan hbB (g) ?_ ?_;(first|omega|(simp<;>omega));intro q0 qf0 qz0))|fail)
      all_goals
       go_wp2_with fail
       go_ret
       exact ⟨⟨_,rfl,by rw [HF.out];simp⟩,bll⟩
   ·
    cases har:decide (0<=arityF name) with
    | true =>
     have HK:=hdQ ((FIN.out true (by rw [Zrf,har])).2 rfl)
     obtain ⟨an2,han⟩:∃ n,arityF name=n:=⟨_,rfl⟩
     have hn0:¬ an2<0:=by have:=of_decide_eq_true har;omega
     have HAR:=hdQ han
     go_wp2_with (first|(go_at_call 178;refine (Zee HAR.out _).mono ?_;rintro e w' ⟨rfl,rfl⟩)|fail)
     (try (go_quiet (fail);go_wp2_with (first|(go_at_call 178;refine (Zee HAR.out _).mono ?_;rintro e w' ⟨rfl,rfl⟩)|fail)))
     go_roundw
     case rel=>exact ⟨k+1,qo,qg,HK.out,(owx HP.out),(owx HU.out),bll⟩
     case measure=>exact qn
    | false =>
     have HF:=hdQ ((FIN.out false (by rw [Zrf,har])).1 rfl)
     obtain ⟨an2,han⟩:∃ n,arityF name=n:=⟨_,rfl⟩
     have hn0:an2<0:=by have:=of_decide_eq_false har;omega
     have HAR:=hdQ han
     go_wp2_with (first|(go_at_call 178;refine (Zee HAR.out _).mono ?_;rintro e w' ⟨rfl,rfl⟩)|fail)
     (try (go_quiet (fail);go_wp2_with (first|(go_at_call 178;refine (Zee HAR.out _).mono ?_;rintro e w' ⟨rfl,rfl⟩)|fail)))
     go_ret
     exact ⟨⟨_,rfl,by rw [HF.out];simp⟩,bll⟩
   ·have HK:=hdQ ((FIN.out true (Zxb h2' h8')).2 rfl)
    have e2':(op==2)=false:=by simpa using h2'
    have e8':(op==8)=false:=by simpa using h8'
    go_wp2_with fail
    iterate 2 (try (go_quiet (fail);go_wp2_with fail))
    go_roundw
    case rel=>exact ⟨k+1,qo,qg,HK.out,(owx HP.out),(owx HU.out),bll⟩
    case measure=>exact qn
  ·obtain rfl:k=p.1.length:=by omega
   go_wp2_with fail
   go_ret
   exact ⟨⟨_,rfl,by rw [HT.out];rfl⟩,HB.out⟩
end
end Go.Proofs.YticdknjoapdmeaaGreatDoor
