/- Several texts in one: PriG, ParL, PriL, LexI, LexJ, LexK. -/
import Derived.Test.YticdknjoapdmeaaGreatDoorMa
import Derived.Test.YticdknjoapdmeaaGreatDoorMf
import Derived.Deep.LoopGhost
import Derived.Test.YticdknjoapdmeaaGreatDoorMd
import Derived.Laws.IdiomStrings
import Derived.Laws.Externs
import Derived.Laws.EntriesVeiled
set_option linter.unusedVariables false
set_option linter.unusedSimpArgs false
set_option linter.unnecessarySimpa false
namespace Go.Proofs.YticdknjoapdmeaaGreatDoor
set_option maxHeartbeats 8000000
section
set_option maxRecDepth 100000
open Go.RowKit Go.Lib
def FGo (w0:World) (B base:Nat) (TA:OA) (tc:Nat) (Ts:List Zam) (AA:OA) (ac:Nat) (as_:List Zab) (X:List Nat) (NA:OA) (d:Nat) (r:PR) (e:Ending) (w':World):Prop :=
 match r with
 | .ok v a ns=>∃ NA' nc',e=.returned (.int .i64 v)/\FSt w0 B base TA tc Ts AA ac as_ X NA d w' a NA' nc' ns
 | .bad o=>e=.panicked (rej o)/\FD w0 B NA w'
 | .out=>False
section
variable {w0 w w':World} {B base:Nat} {TA:OA} {tc:Nat} {Ts:List Zam} {AA:OA} {ac:Nat} {as_:List Zab} {X:List Nat} {NA NA1:OA} {nc:Nat} {ns:List Zac} {a d:Nat}
theorem FSt.igo {r:PR} {e:Ending} (hB:B<w0.heap.size) (h:FSt w0 B base TA tc Ts AA ac as_ X NA d w a NA1 nc ns) (hg:IGo B base TA tc Ts AA ac as_ (gOf (some ⟨w0.heap.size,0,none⟩)++X) ((d+1:Nat):Int) NA1 r w e w'):FGo w0 B base TA tc Ts AA ac as_ X NA d r e w':=by
 cases r with
 | ok v a2 ns2=>obtain ⟨NA',nc',rfl,q1,q2,q3⟩:=hg;exact ⟨NA',nc',rfl,h.go q1 q2 q3⟩
 | bad o=>obtain ⟨rfl,q1,q2⟩:=hg;exact ⟨rfl,h.bad hB q1 q2⟩
 | out=>exact hg.elim
theorem Zvu (h:FSt w0 B base TA tc Ts AA ac as_ X NA d w a NA1 nc ns) (ha:a<Ts.length):CL 192 #[.pointer (some ⟨B,0,none⟩)] w λe w'=>e=.returned (tkV Ts a)/\Bw w w':=Zoe w h.1 ha
theorem Zvv (x:List UInt8) (hx:x≠[]) (b:Bool) (h:FSt w0 B base TA tc Ts AA ac as_ X NA d w a NA1 nc ns) (ha:a<Ts.length) (hb:decide (pk Ts a=x)=b):CL 245 #[.pointer (some ⟨B,0,none⟩),str x] w λe w'=>e=.returned (.bool b)/\FSt w0 B base TA tc Ts AA ac as_ X NA d w' a NA1 nc ns/\Bw w w':=(I_is x w h.1 ha hx).mono (λe w' q=>⟨by rw [<- hb];exact q.1,h.step q.2,q.2⟩)
theorem Zqq (h:FSt w0 B base TA tc Ts AA ac as_ X NA d w a NA1 nc ns) (ha:a<Ts.length) (hs:Ts.length<=1048576) (hk:kd Ts a≠0):CL 193 #[.pointer (some ⟨B,0,none⟩)] w λe w'=>∃ v,e=.returned v/\FSt w0 B base TA tc Ts AA ac as_ X NA d w' (a+1) NA1 nc ns/\Only w.heap.size [B] w w':=(Zqk w h.1 ha hs hk).mono (λe w' q=>⟨_,q.1,h.next q.2.1 q.2.2,q.2.2⟩)
theorem FSt.alloc (h:FSt w0 B base TA tc Ts AA ac as_ X NA d w a NA1 nc ns) (o:Obj):FSt w0 B base TA tc Ts AA ac as_ X NA d (w.alloc o) a NA1 nc ns:=h.step ((Below.refl _ _).alloc (Nat.le_refl _) o)
theorem Zio {fn:Func} {tmps:Array Value} {v:Int} (hres:(results fn tmps).run Tryz.prog (w.setCell ⟨B,2,none⟩ (.int .i64 d))=.ok (.int .i64 v) (w.setCell ⟨B,2,none⟩ (.int .i64 d))) (hd:d<=64) (h:FSt w0 B base TA tc Ts AA ac as_ X NA d w a NA1 nc ns) :
  Leaves Tryz.prog fn tmps (IGo B base TA tc Ts AA ac as_ X d NA (.ok v a ns) w0) [{ target:=.fn (.func 289) #[.pointer (some ⟨w0.heap.size,0,none⟩)],args := #[] }] .returning w:=by
 have hwd:IntKind.i64.wrap ((d:Int)+1-1)=d:=by rw [show (d:Int)+1-1=d by omega];exact IntWalk.i64_in _ qo
 obtain ⟨p0,p2,p3⟩:=h.door
 refine leaves_cons (f:=289) (args := #[.pointer (some ⟨w0.heap.size,0,none⟩)]) qs (by have hf:=Tryz.func289;simp [go_sem,hf]) ?_
 refine (Zql _ w p0 p2 p3).mono ?_
 rintro e m w' ⟨rfl,rfl,hw'⟩
 rw [hwd] at hw'
 subst hw'
 exact ⟨_,hres,h.fin⟩
theorem Zd1 {fn:Func} {tmps:Array Value} {o:Int} (h:FD w0 B NA w) :
  Leaves Tryz.prog fn tmps (IGo B base TA tc Ts AA ac as_ X d NA (.bad o) w0) [{ target:=.fn (.func 289) #[.pointer (some ⟨w0.heap.size,0,none⟩)],args := #[] }] (.panicking (rej o)) w:=by
 obtain ⟨p0,⟨x,p2⟩,p3⟩:=h.door
 refine leaves_cons (f:=289) (args := #[.pointer (some ⟨w0.heap.size,0,none⟩)]) qs (by have hf:=Tryz.func289;simp [go_sem,hf]) ?_
 refine (Zql _ w p0 p2 p3).mono ?_
 rintro e m w' ⟨rfl,rfl,hw'⟩
 subst hw'
 exact h.fin
end
theorem I_facX {B base:Nat} {TA:OA} {tc:Nat} {Ts:List Zam} {AA:OA} {ac:Nat} {as_:List Zab} {k:Nat} (hk:TokK Ts) (ih:∀ m,m<k+1->IPc B base TA tc Ts AA ac as_ m) {d a:Nat} {X:List Nat} {NA:OA} {nc:Nat} {ns:List Zac} (w:World)
  (h:Zbh w B base TA tc Ts AA ac as_ X a d NA nc ns) (ha:a<Ts.length) (hd:¬ 64<d+1) (h1:pk Ts a≠[45]) (h2:pk Ts a≠[40]) (h3:kd Ts a≠1) (h4:kd Ts a≠2) (hn:1+4*(Ts.length-a)<=k+1) :
  CL 275 #[.pointer (some ⟨B,0,none⟩)] w (IGo B base TA tc Ts AA ac as_ X d NA (prs Ts (k+1) .fac (d+1) a ns) w):=by
 have hmf:∀ (fn:Fn) (first cap:Array Value) (w:World),(Instr.makeFunc fn first cap).run Tryz.prog w=.ok (.func fn first cap) w:=λ_ _ _ _=>rfl
 have hlen:=hk.len
 have hB:=h.cells.1
 have g2:=h.cells.2.2.2.1
 have gf:=h.cells.2.2.2.2.2.2
 have HF:=hdQ (FSt.start h)
 have hd':¬ (64:Int)<(d:Int)+1:=qo
 have hd2:d<=64:=qo
 have hw:IntKind.i64.wrap ((d:Int)+1)=(d:Int)+1:=IntWalk.i64_in _ qo
 have hBw:¬ B=w.heap.size:=qo
 have hBw2:¬ w.heap.size=B:=qo
 clear h
 obtain ⟨u,hu⟩:=qv ((w.setCell ⟨B,2,none⟩ (.int .i64 ((d:Int)+1))).alloc (.cells #[.pointer (some ⟨B,0,none⟩)] 172))
 have HF1:=qh (FSt w B base TA tc Ts AA ac as_ X NA d u a NA nc ns) (by rw [<- hu];exact HF.out)
 have hzu:w.heap.size<u.heap.size:=HF1.out.2.1.lt
 obtain ⟨q0,q2,q3⟩:=HF1.out.door
 have HN:=qh (CL 192 #[.pointer (some ⟨B,0,none⟩)] u λe w'=>e=.returned (.agg #[.int .i64 (kd Ts a),str (tx Ts a),.int .i64 (nm Ts a),.int .i64 (of_ Ts a)])/\Bw u w') (Zvu HF1.out ha)
 rw [Zsu hd h1 h2 h3 h4]
 have HI1:=qh (∀ wx {NA':OA} {nc':Nat} {ns':List Zac},FSt w B base TA tc Ts AA ac as_ X NA d wx a NA' nc' ns'->CL 245 #[.pointer (some ⟨B,0,none⟩),.string ⟨#[45]⟩] wx λe w'=>e=.returned (.bool false)/\FSt w B base TA tc Ts AA ac as_ X NA d w' a NA' nc' ns'/\Bw wx w') (λwx _ _ _ q=>Zvv [45] qs false q qo (by simp [h1]))
 have HI2:=qh (∀ wx {NA':OA} {nc':Nat} {ns':List Zac},FSt w B base TA tc Ts AA ac as_ X NA d wx a NA' nc' ns'->CL 245 #[.pointer (some ⟨B,0,none⟩),.string ⟨#[40]⟩] wx λe w'=>e=.returned (.bool false)/\FSt w B base TA tc Ts AA ac as_ X NA d w' a NA' nc' ns'/\Bw wx w') (λwx _ _ _ q=>Zvv [40] qs false q qo (by simp [h2]))
 have HRJ:=qh (∀ wx,CL 194 #[.pointer (some ⟨B,0,none⟩),.agg #[.int .i64 (kd Ts a),str (tx Ts a),.int .i64 (nm Ts a),.int .i64 (of_ Ts a)]] wx λe w'=>e=.panicked (rej (of_ Ts a))/\Bw wx w') (λwx=>Ze8 _ _ _ _ _ wx)
 have e1:(kd Ts a==1)=false:=beq_eq_false_iff_ne.2 h3
 have e2:(kd Ts a==2)=false:=beq_eq_false_iff_ne.2 h4
 clear h1 h2 h3 h4 ih hn
 generalize kd Ts a=kk at *
 generalize tx Ts a=xx at *
 generalize nm Ts a=nn at *
 generalize of_ Ts a=oo at *
 go_enter_defers Tryz.func275,Tryz.ntmps275
 go_wp2_with fail
 clear hu
 (with_reducible refine HN.out.mono ?_)
 rintro e u1 ⟨rfl,hb1⟩
 have HF2:=qh (FSt w B base TA tc Ts AA ac as_ X NA d (u1.alloc (.cells #[.int .i64 kk,str xx,.int .i64 nn,.int .i64 oo] 101)) a NA nc ns) ((HF1.out.step hb1).alloc _)
 have HTB:=qh (Own (u1.alloc (.cells #[.int .i64 kk,str xx,.int .i64 nn,.int .i64 oo] 101)) u1.heap.size 101 [.int .i64 kk,str xx,.int .i64 nn,.int .i64 oo]) (Own.new u1 101 #[_,_,_,_])
 have hz1:=hb1.size
 have HF2':=hdQ (HF1.out.step hb1)
 obtain ⟨r0,r2,r3⟩:=HF2'.out.door
 have hzw:w.heap.size<u1.heap.size:=qo
 have htb:¬ u1.heap.size=B:=qo
 clear hb1 q0 q2 q3
 go_wp2_with fail
 (with_reducible refine (HI1.out _ HF2.out).mono ?_)
 rintro e u2 ⟨rfl,hf2,hb2⟩
 have HF20:=hdQ hf2
 have HT2:=hdQ (Own.step hb2 HTB.out)
 clear r0 r2 r3 hf2 hb2
 obtain ⟨r0,r2,r3⟩:=HF20.out.door
 go_wp2_with fail
 (with_reducible refine (HI2.out _ HF20.out).mono ?_)
 rintro e u3 ⟨rfl,hf3,hb3⟩
 have HF30:=hdQ hf3
 have HT3:=hdQ (Own.step hb3 HT2.out)
 clear r0 r2 r3 hf3 hb3
 obtain ⟨r0,r2,r3⟩:=HF30.out.door
 have b0:=HT3.out.cell 0
 have b1:=HT3.out.cell 1
 have b2:=HT3.out.cell 2
 have b3:=HT3.out.cell 3
 have bz:=HT3.out.lt
 (try dsimp only [List.getElem?_cons_succ,List.getElem?_cons_zero] at b0 b1 b2 b3)
 go_wp2_with fail
 (with_reducible refine (HRJ.out _).mono ?_)
 rintro e u4 ⟨rfl,hb4⟩
 have HD:=hdQ ((HF30.out.fd hB).step hb4)
 clear hb4
 go_wp2_with fail
 exact Zd1 HD.out
theorem I_facN {B base:Nat} {TA:OA} {tc:Nat} {Ts:List Zam} {AA:OA} {ac:Nat} {as_:List Zab} {k:Nat} (hk:TokK Ts) (ih:∀ m,m<k+1->IPc B base TA tc Ts AA ac as_ m) {d a:Nat} {X:List Nat} {NA:OA} {nc:Nat} {ns:List Zac} (w:World)
  (h:Zbh w B base TA tc Ts AA ac as_ X a d NA nc ns) (ha:a<Ts.length) (hd:¬ 64<d+1) (h1:pk Ts a≠[45]) (h2:pk Ts a≠[40]) (h3:kd Ts a=1) (hn:1+4*(Ts.length-a)<=k+1) :
  CL 275 #[.pointer (some ⟨B,0,none⟩)] w (IGo B base TA tc Ts AA ac as_ X d NA (prs Ts (k+1) .fac (d+1) a ns) w):=by
 have hmf:∀ (fn:Fn) (first cap:Array Value) (w:World),(Instr.makeFunc fn first cap).run Tryz.prog w=.ok (.func fn first cap) w:=λ_ _ _ _=>rfl
 have hlen:=hk.len
 have hB:=h.cells.1
 have g2:=h.cells.2.2.2.1
 have gf:=h.cells.2.2.2.2.2.2
 have HF:=hdQ (FSt.start h)
 have hd':¬ (64:Int)<(d:Int)+1:=qo
 have hd2:d<=64:=qo
 have hw:IntKind.i64.wrap ((d:Int)+1)=(d:Int)+1:=IntWalk.i64_in _ qo
 have hBw:¬ B=w.heap.size:=qo
 have hBw2:¬ w.heap.size=B:=qo
 clear h
 obtain ⟨u,hu⟩:=qv ((w.setCell ⟨B,2,none⟩ (.int .i64 ((d:Int)+1))).alloc (.cells #[.pointer (some ⟨B,0,none⟩)] 172))
 have HF1:=qh (FSt w B base TA tc Ts AA ac as_ X NA d u a NA nc ns) (by rw [<- hu];exact HF.out)
 have hzu:w.heap.size<u.heap.size:=HF1.out.2.1.lt
 obtain ⟨q0,q2,q3⟩:=HF1.out.door
 have HN:=qh (CL 192 #[.pointer (some ⟨B,0,none⟩)] u λe w'=>e=.returned (.agg #[.int .i64 (kd Ts a),str (tx Ts a),.int .i64 (nm Ts a),.int .i64 (of_ Ts a)])/\Bw u w') (Zvu HF1.out ha)
 rw [Zsx hd h1 h2 h3]
 have hin:=Zjn hk.ok ha (by rw [h3];decide)
 have HI1:=qh (∀ wx {NA':OA} {nc':Nat} {ns':List Zac},FSt w B base TA tc Ts AA ac as_ X NA d wx a NA' nc' ns'->CL 245 #[.pointer (some ⟨B,0,none⟩),.string ⟨#[45]⟩] wx λe w'=>e=.returned (.bool false)/\FSt w B base TA tc Ts AA ac as_ X NA d w' a NA' nc' ns'/\Bw wx w') (λwx _ _ _ q=>Zvv [45] qs false q qo (by simp [h1]))
 have HI2:=qh (∀ wx {NA':OA} {nc':Nat} {ns':List Zac},FSt w B base TA tc Ts AA ac as_ X NA d wx a NA' nc' ns'->CL 245 #[.pointer (some ⟨B,0,none⟩),.string ⟨#[40]⟩] wx λe w'=>e=.returned (.bool false)/\FSt w B base TA tc Ts AA ac as_ X NA d w' a NA' nc' ns'/\Bw wx w') (λwx _ _ _ q=>Zvv [40] qs false q qo (by simp [h2]))
 have HNX:=qh (∀ wx {NA':OA} {nc':Nat} {ns':List Zac},FSt w B base TA tc Ts AA ac as_ X NA d wx a NA' nc' ns'->CL 193 #[.pointer (some ⟨B,0,none⟩)] wx λe w'=>∃ v,e=.returned v/\FSt w B base TA tc Ts AA ac as_ X NA d w' (a+1) NA' nc' ns'/\Only wx.heap.size [B] wx w') (λwx _ _ _ q=>Zqq q qo hlen (by rw [h3];decide))
 have HADD:=qh (∀ wx {NA':OA} {nc':Nat},FSt w B base TA tc Ts AA ac as_ X NA d wx (a+1) NA' nc' ns->CL 274 #[.pointer (some ⟨B,0,none⟩),Zhn 1 [] (nm Ts a) (.slice none 0 0)] wx (FGo w B base TA tc Ts AA ac as_ X NA d (emit Ts (1,[],nm Ts a,[]) ((a+1)) ns))) (λwx NA' nc' q=>(Zvn (args:=[]) (A:=none) (c:=0) wx q.1 qo qo hlen (Zdb.none_ _ _ _) (λy hy=>by cases hy)).mono (λe w' r=>FSt.igo hB q r))
 obtain ⟨R0,hR0⟩:=qv (emit Ts (1,[],nm Ts a,[]) (a+1) ns)
 rw [hR0] at HADD ⊢
 have hne:R0 ≠ .out:=by rw [<- hR0];unfold emit;split<;>simp
 clear hR0
 rw [h3] at HN
 clear h1 h2 h3 ih hn
 generalize tx Ts a=xx at *
 generalize nm Ts a=nn at *
 generalize of_ Ts a=oo at *
 go_enter_defers Tryz.func275,Tryz.ntmps275
 go_wp2_with fail
 clear hu
 (with_reducible refine HN.out.mono ?_)
 rintro e u1 ⟨rfl,hb1⟩
 have HF2:=qh (FSt w B base TA tc Ts AA ac as_ X NA d (u1.alloc (.cells #[.int .i64 1,str xx,.int .i64 nn,.int .i64 oo] 101)) a NA nc ns) ((HF1.out.step hb1).alloc _)
 have HTB:=qh (Own (u1.alloc (.cells #[.int .i64 1,str xx,.int .i64 nn,.int .i64 oo] 101)) u1.heap.size 101 [.int .i64 1,str xx,.int .i64 nn,.int .i64 oo]) (Own.new u1 101 #[_,_,_,_])
 have hz1:=hb1.size
 have HF2':=hdQ (HF1.out.step hb1)
 obtain ⟨r0,r2,r3⟩:=HF2'.out.door
 have hzw:w.heap.size<u1.heap.size:=qo
 have htb:¬ u1.heap.size=B:=qo
 clear hb1 q0 q2 q3
 go_wp2_with fail
 (with_reducible refine (HI1.out _ HF2.out).mono ?_)
 rintro e u2 ⟨rfl,hf2,hb2⟩
 have HF20:=hdQ hf2
 have HT2:=hdQ (Own.step hb2 HTB.out)
 clear r0 r2 r3 hf2 hb2
 obtain ⟨r0,r2,r3⟩:=HF20.out.door
 go_wp2_with fail
 (with_reducible refine (HI2.out _ HF20.out).mono ?_)
 rintro e u3 ⟨rfl,hf3,hb3⟩
 have HF30:=hdQ hf3
 have HT3:=hdQ (Own.step hb3 HT2.out)
 clear r0 r2 r3 hf3 hb3
 obtain ⟨r0,r2,r3⟩:=HF30.out.door
 have b0:=HT3.out.cell 0
 have b1:=HT3.out.cell 1
 have b2:=HT3.out.cell 2
 have b3:=HT3.out.cell 3
 have bz:=HT3.out.lt
 (try dsimp only [List.getElem?_cons_succ,List.getElem?_cons_zero] at b0 b1 b2 b3)
 go_wp2_with fail
 (with_reducible refine (HNX.out _ HF30.out).mono ?_)
 rintro e u4 ⟨v4,rfl,hf4,hO4⟩
 have HF40:=hdQ hf4
 have HT4:=hdQ (hO4.own HT3.out HT3.out.lt (by simpa using htb))
 clear r0 r2 r3 hf4 hO4
 obtain ⟨r0,r2,r3⟩:=HF40.out.door
 clear b0 b1 b2 b3 bz
 have b0:=HT4.out.cell 0
 have b1:=HT4.out.cell 1
 have b2:=HT4.out.cell 2
 have b3:=HT4.out.cell 3
 have bz:=HT4.out.lt
 (try dsimp only [List.getElem?_cons_succ,List.getElem?_cons_zero] at b0 b1 b2 b3)
 cases R0 with
 | out=>exact absurd rfl hne
 | bad o =>
  go_wp2_with fail
  (with_reducible refine (HADD.out _ HF40.out).mono ?_)
  rintro e u5 ⟨rfl,hd5⟩
  have HD:=hdQ hd5
  clear hd5
  go_wp2_with fail
  exact Zd1 HD.out
 | ok v9 a9 n9 =>
  go_wp2_with fail
  (with_reducible refine (HADD.out _ HF40.out).mono ?_)
  rintro e u5 ⟨NA9,nc9,rfl,hf5⟩
  have HF9:=hdQ hf5
  clear hf5
  go_wp2_with fail
  refine Zio ?_ hd2 HF9.out
  simp [results,Tryz.results275,go_sem]
theorem I_facV {B base:Nat} {TA:OA} {tc:Nat} {Ts:List Zam} {AA:OA} {ac:Nat} {as_:List Zab} {k:Nat} (hk:TokK Ts) (ih:∀ m,m<k+1->IPc B base TA tc Ts AA ac as_ m) {d a:Nat} {X:List Nat} {NA:OA} {nc:Nat} {ns:List Zac} (w:World)
  (h:Zbh w B base TA tc Ts AA ac as_ X a d NA nc ns) (ha:a<Ts.length) (hd:¬ 64<d+1) (h1:pk Ts a≠[45]) (h2:pk Ts a≠[40]) (h3:kd Ts a=2) (hq:pk Ts (a+1)≠[40]) (hn:1+4*(Ts.length-a)<=k+1) :
  CL 275 #[.pointer (some ⟨B,0,none⟩)] w (IGo B base TA tc Ts AA ac as_ X d NA (prs Ts (k+1) .fac (d+1) a ns) w):=by
 have hmf:∀ (fn:Fn) (first cap:Array Value) (w:World),(Instr.makeFunc fn first cap).run Tryz.prog w=.ok (.func fn first cap) w:=λ_ _ _ _=>rfl
 have hlen:=hk.len
 have hB:=h.cells.1
 have g2:=h.cells.2.2.2.1
 have gf:=h.cells.2.2.2.2.2.2
 have HF:=hdQ (FSt.start h)
 have hd':¬ (64:Int)<(d:Int)+1:=qo
 have hd2:d<=64:=qo
 have hw:IntKind.i64.wrap ((d:Int)+1)=(d:Int)+1:=IntWalk.i64_in _ qo
 have hBw:¬ B=w.heap.size:=qo
 have hBw2:¬ w.heap.size=B:=qo
 clear h
 obtain ⟨u,hu⟩:=qv ((w.setCell ⟨B,2,none⟩ (.int .i64 ((d:Int)+1))).alloc (.cells #[.pointer (some ⟨B,0,none⟩)] 172))
 have HF1:=qh (FSt w B base TA tc Ts AA ac as_ X NA d u a NA nc ns) (by rw [<- hu];exact HF.out)
 have hzu:w.heap.size<u.heap.size:=HF1.out.2.1.lt
 obtain ⟨q0,q2,q3⟩:=HF1.out.door
 have HN:=qh (CL 192 #[.pointer (some ⟨B,0,none⟩)] u λe w'=>e=.returned (.agg #[.int .i64 (kd Ts a),str (tx Ts a),.int .i64 (nm Ts a),.int .i64 (of_ Ts a)])/\Bw u w') (Zvu HF1.out ha)
 have hin:=Zjn hk.ok ha (by rw [h3];decide)
 have HI1:=qh (∀ wx {NA':OA} {nc':Nat} {ns':List Zac},FSt w B base TA tc Ts AA ac as_ X NA d wx a NA' nc' ns'->CL 245 #[.pointer (some ⟨B,0,none⟩),.string ⟨#[45]⟩] wx λe w'=>e=.returned (.bool false)/\FSt w B base TA tc Ts AA ac as_ X NA d w' a NA' nc' ns'/\Bw wx w') (λwx _ _ _ q=>Zvv [45] qs false q qo (by simp [h1]))
 have HI2:=qh (∀ wx {NA':OA} {nc':Nat} {ns':List Zac},FSt w B base TA tc Ts AA ac as_ X NA d wx a NA' nc' ns'->CL 245 #[.pointer (some ⟨B,0,none⟩),.string ⟨#[40]⟩] wx λe w'=>e=.returned (.bool false)/\FSt w B base TA tc Ts AA ac as_ X NA d w' a NA' nc' ns'/\Bw wx w') (λwx _ _ _ q=>Zvv [40] qs false q qo (by simp [h2]))
 have HI3:=qh (∀ wx {NA':OA} {nc':Nat} {ns':List Zac},FSt w B base TA tc Ts AA ac as_ X NA d wx (a+1) NA' nc' ns'->CL 245 #[.pointer (some ⟨B,0,none⟩),.string ⟨#[40]⟩] wx λe w'=>e=.returned (.bool false)/\FSt w B base TA tc Ts AA ac as_ X NA d w' (a+1) NA' nc' ns'/\Bw wx w') (λwx _ _ _ q=>Zvv [40] qs false q qo (by simp [hq]))
 have HNX:=qh (∀ wx {NA':OA} {nc':Nat} {ns':List Zac},FSt w B base TA tc Ts AA ac as_ X NA d wx a NA' nc' ns'->CL 193 #[.pointer (some ⟨B,0,none⟩)] wx λe w'=>∃ v,e=.returned v/\FSt w B base TA tc Ts AA ac as_ X NA d w' (a+1) NA' nc' ns'/\Only wx.heap.size [B] wx w') (λwx _ _ _ q=>Zqq q qo hlen (by rw [h3];decide))
 have HADD:=qh (∀ wx {NA':OA} {nc':Nat},FSt w B base TA tc Ts AA ac as_ X NA d wx (a+1) NA' nc' ns->CL 274 #[.pointer (some ⟨B,0,none⟩),Zhn 2 (tx Ts a) 0 (.slice none 0 0)] wx (FGo w B base TA tc Ts AA ac as_ X NA d (emit Ts (2,tx Ts a,0,[]) ((a+1)) ns))) (λwx NA' nc' q=>(Zvn (args:=[]) (A:=none) (c:=0) wx q.1 qo qo hlen (Zdb.none_ _ _ _) (λy hy=>by cases hy)).mono (λe w' r=>FSt.igo hB q r))
 rw [Zsv hd h1 h2 h3 hq]
 obtain ⟨R0,hR0⟩:=qv (emit Ts (2,tx Ts a,0,[]) (a+1) ns)
 rw [hR0] at HADD ⊢
 have hne:R0 ≠ .out:=by rw [<- hR0];unfold emit;split<;>simp
 clear hR0
 rw [h3] at HN
 clear h1 h2 h3 hq ih hn
 generalize tx Ts a=xx at *
 generalize nm Ts a=nn at *
 generalize of_ Ts a=oo at *
 go_enter_defers Tryz.func275,Tryz.ntmps275
 go_wp2_with fail
 clear hu
 (with_reducible refine HN.out.mono ?_)
 rintro e u1 ⟨rfl,hb1⟩
 have HF2:=qh (FSt w B base TA tc Ts AA ac as_ X NA d (u1.alloc (.cells #[.int .i64 2,str xx,.int .i64 nn,.int .i64 oo] 101)) a NA nc ns) ((HF1.out.step hb1).alloc _)
 have HTB:=qh (Own (u1.alloc (.cells #[.int .i64 2,str xx,.int .i64 nn,.int .i64 oo] 101)) u1.heap.size 101 [.int .i64 2,str xx,.int .i64 nn,.int .i64 oo]) (Own.new u1 101 #[_,_,_,_])
 have hz1:=hb1.size
 have HF2':=hdQ (HF1.out.step hb1)
 obtain ⟨r0,r2,r3⟩:=HF2'.out.door
 have hzw:w.heap.size<u1.heap.size:=qo
 have htb:¬ u1.heap.size=B:=qo
 clear hb1 q0 q2 q3
 go_wp2_with fail
 (with_reducible refine (HI1.out _ HF2.out).mono ?_)
 rintro e u2 ⟨rfl,hf2,hb2⟩
 have HF20:=hdQ hf2
 have HT2:=hdQ (Own.step hb2 HTB.out)
 clear r0 r2 r3 hf2 hb2
 obtain ⟨r0,r2,r3⟩:=HF20.out.door
 go_wp2_with fail
 (with_reducible refine (HI2.out _ HF20.out).mono ?_)
 rintro e u3 ⟨rfl,hf3,hb3⟩
 have HF30:=hdQ hf3
 have HT3:=hdQ (Own.step hb3 HT2.out)
 clear r0 r2 r3 hf3 hb3
 obtain ⟨r0,r2,r3⟩:=HF30.out.door
 have b0:=HT3.out.cell 0
 have b1:=HT3.out.cell 1
 have b2:=HT3.out.cell 2
 have b3:=HT3.out.cell 3
 have bz:=HT3.out.lt
 (try dsimp only [List.getElem?_cons_succ,List.getElem?_cons_zero] at b0 b1 b2 b3)
 go_wp2_with fail
 (with_reducible refine (HNX.out _ HF30.out).mono ?_)
 rintro e u4 ⟨v4,rfl,hf4,hO4⟩
 have HF40:=hdQ hf4
 have HT4:=hdQ (hO4.own HT3.out HT3.out.lt (by simpa using htb))
 clear r0 r2 r3 hf4 hO4
 obtain ⟨r0,r2,r3⟩:=HF40.out.door
 clear b0 b1 b2 b3 bz
 go_wp2_with fail
 (with_reducible refine (HI3.out _ HF40.out).mono ?_)
 rintro e u5 ⟨rfl,hf5,hb5⟩
 have HF50:=hdQ hf5
 have HT5:=hdQ (Own.step hb5 HT4.out)
 clear r0 r2 r3 hf5 hb5
 obtain ⟨r0,r2,r3⟩:=HF50.out.door
 have b0:=HT5.out.cell 0
 have b1:=HT5.out.cell 1
 have b2:=HT5.out.cell 2
 have b3:=HT5.out.cell 3
 have bz:=HT5.out.lt
 (try dsimp only [List.getElem?_cons_succ,List.getElem?_cons_zero] at b0 b1 b2 b3)
 cases R0 with
 | out=>exact absurd rfl hne
 | bad o =>
  go_wp2_with fail
  (with_reducible refine (HADD.out _ HF50.out).mono ?_)
  rintro e u6 ⟨rfl,hd6⟩
  have HD:=hdQ hd6
  clear hd6
  go_wp2_with fail
  exact Zd1 HD.out
 | ok v9 a9 n9 =>
  go_wp2_with fail
  (with_reducible refine (HADD.out _ HF50.out).mono ?_)
  rintro e u6 ⟨NA9,nc9,rfl,hf6⟩
  have HF9:=hdQ hf6
  clear hf6
  go_wp2_with fail
  refine Zio ?_ hd2 HF9.out
  simp [results,Tryz.results275,go_sem]
theorem I_facC {B base:Nat} {TA:OA} {tc:Nat} {Ts:List Zam} {AA:OA} {ac:Nat} {as_:List Zab} {k:Nat} (hk:TokK Ts) (ih:∀ m,m<k+1->IPc B base TA tc Ts AA ac as_ m) {d a:Nat} {X:List Nat} {NA:OA} {nc:Nat} {ns:List Zac} (w:World)
  (h:Zbh w B base TA tc Ts AA ac as_ X a d NA nc ns) (ha:a<Ts.length) (hd:¬ 64<d+1) (h1:pk Ts a≠[45]) (h2:pk Ts a≠[40]) (h3:kd Ts a=2) (hq:pk Ts (a+1)=[40]) (hn:1+4*(Ts.length-a)<=k+1) :
  CL 275 #[.pointer (some ⟨B,0,none⟩)] w (IGo B base TA tc Ts AA ac as_ X d NA (prs Ts (k+1) .fac (d+1) a ns) w):=by
 have hmf:∀ (fn:Fn) (first cap:Array Value) (w:World),(Instr.makeFunc fn first cap).run Tryz.prog w=.ok (.func fn first cap) w:=λ_ _ _ _=>rfl
 have hlen:=hk.len
 have hB:=h.cells.1
 have g2:=h.cells.2.2.2.1
 have gf:=h.cells.2.2.2.2.2.2
 have HF:=hdQ (FSt.start h)
 have hd':¬ (64:Int)<(d:Int)+1:=qo
 have hd2:d<=64:=qo
 have hw:IntKind.i64.wrap ((d:Int)+1)=(d:Int)+1:=IntWalk.i64_in _ qo
 have hBw:¬ B=w.heap.size:=qo
 have hBw2:¬ w.heap.size=B:=qo
 clear h
 obtain ⟨u,hu⟩:=qv ((w.setCell ⟨B,2,none⟩ (.int .i64 ((d:Int)+1))).alloc (.cells #[.pointer (some ⟨B,0,none⟩)] 172))
 have HF1:=qh (FSt w B base TA tc Ts AA ac as_ X NA d u a NA nc ns) (by rw [<- hu];exact HF.out)
 have hzu:w.heap.size<u.heap.size:=HF1.out.2.1.lt
 obtain ⟨q0,q2,q3⟩:=HF1.out.door
 have HN:=qh (CL 192 #[.pointer (some ⟨B,0,none⟩)] u λe w'=>e=.returned (.agg #[.int .i64 (kd Ts a),str (tx Ts a),.int .i64 (nm Ts a),.int .i64 (of_ Ts a)])/\Bw u w') (Zvu HF1.out ha)
 have hin:=Zjn hk.ok ha (by rw [h3];decide)
 have HI1:=qh (∀ wx {NA':OA} {nc':Nat} {ns':List Zac},FSt w B base TA tc Ts AA ac as_ X NA d wx a NA' nc' ns'->CL 245 #[.pointer (some ⟨B,0,none⟩),.string ⟨#[45]⟩] wx λe w'=>e=.returned (.bool false)/\FSt w B base TA tc Ts AA ac as_ X NA d w' a NA' nc' ns'/\Bw wx w') (λwx _ _ _ q=>Zvv [45] qs false q qo (by simp [h1]))
 have HI2:=qh (∀ wx {NA':OA} {nc':Nat} {ns':List Zac},FSt w B base TA tc Ts AA ac as_ X NA d wx a NA' nc' ns'->CL 245 #[.pointer (some ⟨B,0,none⟩),.string ⟨#[40]⟩] wx λe w'=>e=.returned (.bool false)/\FSt w B base TA tc Ts AA ac as_ X NA d w' a NA' nc' ns'/\Bw wx w') (λwx _ _ _ q=>Zvv [40] qs false q qo (by simp [h2]))
 have HI3:=qh (∀ wx {NA':OA} {nc':Nat} {ns':List Zac},FSt w B base TA tc Ts AA ac as_ X NA d wx (a+1) NA' nc' ns'->CL 245 #[.pointer (some ⟨B,0,none⟩),.string ⟨#[40]⟩] wx λe w'=>e=.returned (.bool true)/\FSt w B base TA tc Ts AA ac as_ X NA d w' (a+1) NA' nc' ns'/\Bw wx w') (λwx _ _ _ q=>Zvv [40] qs true q qo (by simp [hq]))
 have HNX:=qh (∀ wx {NA':OA} {nc':Nat} {ns':List Zac},FSt w B base TA tc Ts AA ac as_ X NA d wx a NA' nc' ns'->CL 193 #[.pointer (some ⟨B,0,none⟩)] wx λe w'=>∃ v,e=.returned v/\FSt w B base TA tc Ts AA ac as_ X NA d w' (a+1) NA' nc' ns'/\Only wx.heap.size [B] wx w') (λwx _ _ _ q=>Zqq q qo hlen (by rw [h3];decide))
 have hin2:=Zdg hk.ok hin (by rw [hq];simp)
 have hE:=Zbq hk.ok k (.args (tx Ts a) []) (d+1+1) (a+2) ns hin2 (by show 4+_<=k;omega)
 have HADD:=qh (∀ wx {NA':OA} {nc':Nat},FSt w B base TA tc Ts AA ac as_ X NA d wx (a+1) NA' nc' ns->CL 290 #[.pointer (some ⟨B,0,none⟩),str (tx Ts a)] wx (FGo w B base TA tc Ts AA ac as_ X NA d (prs Ts k (.args (tx Ts a) []) (d+1+1) (a+2) ns))) (λwx NA' nc' q=>((ih k qo).cal (tx Ts a) (d+1) (a+1) _ NA' nc' ns wx q.1 hin2 qo hq qo).mono (λe w' r=>FSt.igo hB q r))
 rw [Zsz hd h1 h2 h3 hq]
 obtain ⟨R0,hR0⟩:=qv (prs Ts k (.args (tx Ts a) []) (d+1+1) (a+2) ns)
 rw [hR0] at HADD ⊢
 have hne:R0 ≠ .out:=by rw [<- hR0];exact hE.1
 clear hR0 hE
 rw [h3] at HN
 clear h1 h2 h3 hq ih hn
 generalize tx Ts a=xx at *
 generalize nm Ts a=nn at *
 generalize of_ Ts a=oo at *
 go_enter_defers Tryz.func275,Tryz.ntmps275
 go_wp2_with fail
 clear hu
 (with_reducible refine HN.out.mono ?_)
 rintro e u1 ⟨rfl,hb1⟩
 have HF2:=qh (FSt w B base TA tc Ts AA ac as_ X NA d (u1.alloc (.cells #[.int .i64 2,str xx,.int .i64 nn,.int .i64 oo] 101)) a NA nc ns) ((HF1.out.step hb1).alloc _)
 have HTB:=qh (Own (u1.alloc (.cells #[.int .i64 2,str xx,.int .i64 nn,.int .i64 oo] 101)) u1.heap.size 101 [.int .i64 2,str xx,.int .i64 nn,.int .i64 oo]) (Own.new u1 101 #[_,_,_,_])
 have hz1:=hb1.size
 have HF2':=hdQ (HF1.out.step hb1)
 obtain ⟨r0,r2,r3⟩:=HF2'.out.door
 have hzw:w.heap.size<u1.heap.size:=qo
 have htb:¬ u1.heap.size=B:=qo
 clear hb1 q0 q2 q3
 go_wp2_with fail
 (with_reducible refine (HI1.out _ HF2.out).mono ?_)
 rintro e u2 ⟨rfl,hf2,hb2⟩
 have HF20:=hdQ hf2
 have HT2:=hdQ (Own.step hb2 HTB.out)
 clear r0 r2 r3 hf2 hb2
 obtain ⟨r0,r2,r3⟩:=HF20.out.door
 go_wp2_with fail
 (with_reducible refine (HI2.out _ HF20.out).mono ?_)
 rintro e u3 ⟨rfl,hf3,hb3⟩
 have HF30:=hdQ hf3
 have HT3:=hdQ (Own.step hb3 HT2.out)
 clear r0 r2 r3 hf3 hb3
 obtain ⟨r0,r2,r3⟩:=HF30.out.door
 have b0:=HT3.out.cell 0
 have b1:=HT3.out.cell 1
 have b2:=HT3.out.cell 2
 have b3:=HT3.out.cell 3
 have bz:=HT3.out.lt
 (try dsimp only [List.getElem?_cons_succ,List.getElem?_cons_zero] at b0 b1 b2 b3)
 go_wp2_with fail
 (with_reducible refine (HNX.out _ HF30.out).mono ?_)
 rintro e u4 ⟨v4,rfl,hf4,hO4⟩
 have HF40:=hdQ hf4
 have HT4:=hdQ (hO4.own HT3.out HT3.out.lt (by simpa using htb))
 clear r0 r2 r3 hf4 hO4
 obtain ⟨r0,r2,r3⟩:=HF40.out.door
 clear b0 b1 b2 b3 bz
 go_wp2_with fail
 (with_reducible refine (HI3.out _ HF40.out).mono ?_)
 rintro e u5 ⟨rfl,hf5,hb5⟩
 have HF50:=hdQ hf5
 have HT5:=hdQ (Own.step hb5 HT4.out)
 clear r0 r2 r3 hf5 hb5
 obtain ⟨r0,r2,r3⟩:=HF50.out.door
 have b0:=HT5.out.cell 0
 have b1:=HT5.out.cell 1
 have b2:=HT5.out.cell 2
 have b3:=HT5.out.cell 3
 have bz:=HT5.out.lt
 (try dsimp only [List.getElem?_cons_succ,List.getElem?_cons_zero] at b0 b1 b2 b3)
 cases R0 with
 | out=>exact absurd rfl hne
 | bad o =>
  go_wp2_with fail
  (with_reducible refine (HADD.out _ HF50.out).mono ?_)
  rintro e u6 ⟨rfl,hd6⟩
  have HD:=hdQ hd6
  clear hd6
  go_wp2_with fail
  exact Zd1 HD.out
 | ok v9 a9 n9 =>
  go_wp2_with fail
  (with_reducible refine (HADD.out _ HF50.out).mono ?_)
  rintro e u6 ⟨NA9,nc9,rfl,hf6⟩
  have HF9:=hdQ hf6
  clear hf6
  go_wp2_with fail
  refine Zio ?_ hd2 HF9.out
  simp [results,Tryz.results275,go_sem]
theorem I_facM {B base:Nat} {TA:OA} {tc:Nat} {Ts:List Zam} {AA:OA} {ac:Nat} {as_:List Zab} {k:Nat} (hk:TokK Ts) (ih:∀ m,m<k+1->IPc B base TA tc Ts AA ac as_ m) {d a:Nat} {X:List Nat} {NA:OA} {nc:Nat} {ns:List Zac} (w:World)
  (h:Zbh w B base TA tc Ts AA ac as_ X a d NA nc ns) (ha:a<Ts.length) (hd:¬ 64<d+1) (h1:pk Ts a=[45]) (hn:1+4*(Ts.length-a)<=k+1) :
  CL 275 #[.pointer (some ⟨B,0,none⟩)] w (IGo B base TA tc Ts AA ac as_ X d NA (prs Ts (k+1) .fac (d+1) a ns) w):=by
 have hmf:∀ (fn:Fn) (first cap:Array Value) (w:World),(Instr.makeFunc fn first cap).run Tryz.prog w=.ok (.func fn first cap) w:=λ_ _ _ _=>rfl
 have hlen:=hk.len
 have hB:=h.cells.1
 have g2:=h.cells.2.2.2.1
 have gf:=h.cells.2.2.2.2.2.2
 have HF:=hdQ (FSt.start h)
 have hd':¬ (64:Int)<(d:Int)+1:=qo
 have hd2:d<=64:=qo
 have hw:IntKind.i64.wrap ((d:Int)+1)=(d:Int)+1:=IntWalk.i64_in _ qo
 have hBw:¬ B=w.heap.size:=qo
 have hBw2:¬ w.heap.size=B:=qo
 clear h
 obtain ⟨u,hu⟩:=qv ((w.setCell ⟨B,2,none⟩ (.int .i64 ((d:Int)+1))).alloc (.cells #[.pointer (some ⟨B,0,none⟩)] 172))
 have HF1:=qh (FSt w B base TA tc Ts AA ac as_ X NA d u a NA nc ns) (by rw [<- hu];exact HF.out)
 have hzu:w.heap.size<u.heap.size:=HF1.out.2.1.lt
 obtain ⟨q0,q2,q3⟩:=HF1.out.door
 have HN:=qh (CL 192 #[.pointer (some ⟨B,0,none⟩)] u λe w'=>e=.returned (.agg #[.int .i64 (kd Ts a),str (tx Ts a),.int .i64 (nm Ts a),.int .i64 (of_ Ts a)])/\Bw u w') (Zvu HF1.out ha)
 have hin:=Zdg hk.ok ha (by rw [h1];simp)
 have hE:=Zbq hk.ok k .fac (d+1+1) (a+1) ns hin (by show 1+_<=k;omega)
 have HI1:=qh (∀ wx {NA':OA} {nc':Nat} {ns':List Zac},FSt w B base TA tc Ts AA ac as_ X NA d wx a NA' nc' ns'->CL 245 #[.pointer (some ⟨B,0,none⟩),.string ⟨#[45]⟩] wx λe w'=>e=.returned (.bool true)/\FSt w B base TA tc Ts AA ac as_ X NA d w' a NA' nc' ns'/\Bw wx w') (λwx _ _ _ q=>Zvv [45] qs true q qo (by simp [h1]))
 have HNX:=qh (∀ wx {NA':OA} {nc':Nat} {ns':List Zac},FSt w B base TA tc Ts AA ac as_ X NA d wx a NA' nc' ns'->CL 193 #[.pointer (some ⟨B,0,none⟩)] wx λe w'=>∃ v,e=.returned v/\FSt w B base TA tc Ts AA ac as_ X NA d w' (a+1) NA' nc' ns'/\Only wx.heap.size [B] wx w') (λwx _ _ _ q=>Zqq q qo hlen (Zuc h1 qs))
 have HREC:=qh (∀ wx {NA':OA} {nc':Nat},FSt w B base TA tc Ts AA ac as_ X NA d wx (a+1) NA' nc' ns->CL 275 #[.pointer (some ⟨B,0,none⟩)] wx (FGo w B base TA tc Ts AA ac as_ X NA d (prs Ts k .fac (d+1+1) (a+1) ns))) (λwx NA' nc' q=>((ih k qo).fac (d+1) (a+1) _ NA' nc' ns wx q.1 hin qo qo).mono (λe w' r=>FSt.igo hB q r))
 rw [Zsy hd h1]
 cases hr:prs Ts k .fac (d+1+1) (a+1) ns with
 | out=>exact absurd hr hE.1
 | bad o =>
  rw [hr] at HREC
  dsimp only
  clear h1 ih hn hE hr
  generalize kd Ts a=kk at *
  generalize tx Ts a=xx at *
  generalize nm Ts a=nn at *
  generalize of_ Ts a=oo at *
  go_enter_defers Tryz.func275,Tryz.ntmps275
  go_wp2_with fail
  clear hu
  (with_reducible refine HN.out.mono ?_)
  rintro e u1 ⟨rfl,hb1⟩
  have HF2:=qh (FSt w B base TA tc Ts AA ac as_ X NA d (u1.alloc (.cells #[.int .i64 kk,str xx,.int .i64 nn,.int .i64 oo] 101)) a NA nc ns) ((HF1.out.step hb1).alloc _)
  have HTB:=qh (Own (u1.alloc (.cells #[.int .i64 kk,str xx,.int .i64 nn,.int .i64 oo] 101)) u1.heap.size 101 [.int .i64 kk,str xx,.int .i64 nn,.int .i64 oo]) (Own.new u1 101 #[_,_,_,_])
  have hz1:=hb1.size
  have HF2':=hdQ (HF1.out.step hb1)
  obtain ⟨r0,r2,r3⟩:=HF2'.out.door
  have hzw:w.heap.size<u1.heap.size:=qo
  have htb:¬ u1.heap.size=B:=qo
  clear hb1 q0 q2 q3
  go_wp2_with fail
  (with_reducible refine (HI1.out _ HF2.out).mono ?_)
  rintro e u2 ⟨rfl,hf2,hb2⟩
  have HF20:=hdQ hf2
  have HT2:=hdQ (Own.step hb2 HTB.out)
  clear r0 r2 r3 hf2 hb2
  obtain ⟨r0,r2,r3⟩:=HF20.out.door
  go_wp2_with fail
  (with_reducible refine (HNX.out _ HF20.out).mono ?_)
  rintro e u3 ⟨v3,rfl,hf3,hO3⟩
  have HF30:=hdQ hf3
  have HT3:=hdQ (hO3.own HT2.out HT2.out.lt (by simpa using htb))
  clear r0 r2 r3 hf3 hO3
  obtain ⟨r0,r2,r3⟩:=HF30.out.door
  go_wp2_with fail
  (with_reducible refine (HREC.out _ HF30.out).mono ?_)
  rintro e u4 ⟨rfl,hd4⟩
  have HD:=hdQ hd4
  clear hd4
  go_wp2_with fail
  exact Zd1 HD.out
 | ok v a1 n1 =>
  rw [hr] at HREC
  dsimp only
  have h6:=hE.2 v a1 n1 hr
  have h6':a+1+1<=a1/\a1<Ts.length:=h6
  have HADD:=qh (∀ wx {NA':OA} {nc':Nat},FSt w B base TA tc Ts AA ac as_ X NA d wx a1 NA' nc' n1->CL 274 #[.pointer (some ⟨B,0,none⟩),Zhn 3 [] 0 (.slice (some ⟨wx.heap.size,0,none⟩) 1 1)] (wx.alloc (.cells #[.int .i64 v] 3)) (FGo w B base TA tc Ts AA ac as_ X NA d (emit Ts (3,[],0,[v]) a1 n1))) (λwx NA' nc' q=>(Zvn (args:=[v]) _ (q.1.fresh_ _) qo qo hlen (Zdb.some_ (Own.new wx 3 #[.int .i64 v]) rfl qs) (λy hy=>by
    obtain rfl:y=wx.heap.size:=by simpa [gOf] using hy
    exact λr=>by have:=(q.1.2.xlt _ r).1;omega)).mono (λe w' r=>FSt.igo hB (q.alloc _) r))
  obtain ⟨R0,hR0⟩:=qv (emit Ts (3,[],0,[v]) a1 n1)
  rw [hR0] at HADD ⊢
  have hne:R0 ≠ .out:=by rw [<- hR0];unfold emit;split<;>simp
  clear hR0
  clear h1 ih hn hE hr h6
  generalize kd Ts a=kk at *
  generalize tx Ts a=xx at *
  generalize nm Ts a=nn at *
  generalize of_ Ts a=oo at *
  go_enter_defers Tryz.func275,Tryz.ntmps275
  go_wp2_with fail
  clear hu
  (with_reducible refine HN.out.mono ?_)
  rintro e u1 ⟨rfl,hb1⟩
  have HF2:=qh (FSt w B base TA tc Ts AA ac as_ X NA d (u1.alloc (.cells #[.int .i64 kk,str xx,.int .i64 nn,.int .i64 oo] 101)) a NA nc ns) ((HF1.out.step hb1).alloc _)
  have HTB:=qh (Own (u1.alloc (.cells #[.int .i64 kk,str xx,.int .i64 nn,.int .i64 oo] 101)) u1.heap.size 101 [.int .i64 kk,str xx,.int .i64 nn,.int .i64 oo]) (Own.new u1 101 #[_,_,_,_])
  have hz1:=hb1.size
  have HF2':=hdQ (HF1.out.step hb1)
  obtain ⟨r0,r2,r3⟩:=HF2'.out.door
  have hzw:w.heap.size<u1.heap.size:=qo
  have htb:¬ u1.heap.size=B:=qo
  clear hb1 q0 q2 q3
  go_wp2_with fail
  (with_reducible refine (HI1.out _ HF2.out).mono ?_)
  rintro e u2 ⟨rfl,hf2,hb2⟩
  have HF20:=hdQ hf2
  have HT2:=hdQ (Own.step hb2 HTB.out)
  clear r0 r2 r3 hf2 hb2
  obtain ⟨r0,r2,r3⟩:=HF20.out.door
  go_wp2_with fail
  (with_reducible refine (HNX.out _ HF20.out).mono ?_)
  rintro e u3 ⟨v3,rfl,hf3,hO3⟩
  have HF30:=hdQ hf3
  have HT3:=hdQ (hO3.own HT2.out HT2.out.lt (by simpa using htb))
  clear r0 r2 r3 hf3 hO3
  obtain ⟨r0,r2,r3⟩:=HF30.out.door
  go_wp2_with fail
  (with_reducible refine (HREC.out _ HF30.out).mono ?_)
  rintro e u4 ⟨NA4,nc4,rfl,hf4⟩
  have HF40:=hdQ hf4
  clear r0 r2 r3 hf4
  obtain ⟨r0,r2,r3⟩:=HF40.out.door
  cases R0 with
  | out=>exact absurd rfl hne
  | bad o =>
   go_wp2_with fail
   (with_reducible refine (HADD.out _ HF40.out).mono ?_)
   rintro e u5 ⟨rfl,hd5⟩
   have HD:=hdQ hd5
   clear hd5
   go_wp2_with fail
   exact Zd1 HD.out
  | ok v9 a9 n9 =>
   go_wp2_with fail
   (with_reducible refine (HADD.out _ HF40.out).mono ?_)
   rintro e u5 ⟨NA9,nc9,rfl,hf5⟩
   have HF9:=hdQ hf5
   clear hf5
   go_wp2_with fail
   refine Zio ?_ hd2 HF9.out
   simp [results,Tryz.results275,go_sem]
theorem I_facP {B base:Nat} {TA:OA} {tc:Nat} {Ts:List Zam} {AA:OA} {ac:Nat} {as_:List Zab} {k:Nat} (hk:TokK Ts) (ih:∀ m,m<k+1->IPc B base TA tc Ts AA ac as_ m) {d a:Nat} {X:List Nat} {NA:OA} {nc:Nat} {ns:List Zac} (w:World)
  (h:Zbh w B base TA tc Ts AA ac as_ X a d NA nc ns) (ha:a<Ts.length) (hd:¬ 64<d+1) (h2:pk Ts a=[40]) (hn:1+4*(Ts.length-a)<=k+1) :
  CL 275 #[.pointer (some ⟨B,0,none⟩)] w (IGo B base TA tc Ts AA ac as_ X d NA (prs Ts (k+1) .fac (d+1) a ns) w):=by
 have hmf:∀ (fn:Fn) (first cap:Array Value) (w:World),(Instr.makeFunc fn first cap).run Tryz.prog w=.ok (.func fn first cap) w:=λ_ _ _ _=>rfl
 have hlen:=hk.len
 have hB:=h.cells.1
 have g2:=h.cells.2.2.2.1
 have gf:=h.cells.2.2.2.2.2.2
 have HF:=hdQ (FSt.start h)
 have hd':¬ (64:Int)<(d:Int)+1:=qo
 have hd2:d<=64:=qo
 have hw:IntKind.i64.wrap ((d:Int)+1)=(d:Int)+1:=IntWalk.i64_in _ qo
 have hBw:¬ B=w.heap.size:=qo
 have hBw2:¬ w.heap.size=B:=qo
 clear h
 obtain ⟨u,hu⟩:=qv ((w.setCell ⟨B,2,none⟩ (.int .i64 ((d:Int)+1))).alloc (.cells #[.pointer (some ⟨B,0,none⟩)] 172))
 have HF1:=qh (FSt w B base TA tc Ts AA ac as_ X NA d u a NA nc ns) (by rw [<- hu];exact HF.out)
 have hzu:w.heap.size<u.heap.size:=HF1.out.2.1.lt
 obtain ⟨q0,q2,q3⟩:=HF1.out.door
 have HN:=qh (CL 192 #[.pointer (some ⟨B,0,none⟩)] u λe w'=>e=.returned (.agg #[.int .i64 (kd Ts a),str (tx Ts a),.int .i64 (nm Ts a),.int .i64 (of_ Ts a)])/\Bw u w') (Zvu HF1.out ha)
 have h1:pk Ts a≠[45]:=by rw [h2];decide
 have hin:=Zdg hk.ok ha (by rw [h2];simp)
 have hE:=Zbq hk.ok k (.bin true) (d+1+1) (a+1) ns hin (by show 3+_<=k;omega)
 have HI1:=qh (∀ wx {NA':OA} {nc':Nat} {ns':List Zac},FSt w B base TA tc Ts AA ac as_ X NA d wx a NA' nc' ns'->CL 245 #[.pointer (some ⟨B,0,none⟩),.string ⟨#[45]⟩] wx λe w'=>e=.returned (.bool false)/\FSt w B base TA tc Ts AA ac as_ X NA d w' a NA' nc' ns'/\Bw wx w') (λwx _ _ _ q=>Zvv [45] qs false q qo (by simp [h1]))
 have HI2:=qh (∀ wx {NA':OA} {nc':Nat} {ns':List Zac},FSt w B base TA tc Ts AA ac as_ X NA d wx a NA' nc' ns'->CL 245 #[.pointer (some ⟨B,0,none⟩),.string ⟨#[40]⟩] wx λe w'=>e=.returned (.bool true)/\FSt w B base TA tc Ts AA ac as_ X NA d w' a NA' nc' ns'/\Bw wx w') (λwx _ _ _ q=>Zvv [40] qs true q qo (by simp [h2]))
 have HNX:=qh (∀ wx {NA':OA} {nc':Nat} {ns':List Zac},FSt w B base TA tc Ts AA ac as_ X NA d wx a NA' nc' ns'->CL 193 #[.pointer (some ⟨B,0,none⟩)] wx λe w'=>∃ v,e=.returned v/\FSt w B base TA tc Ts AA ac as_ X NA d w' (a+1) NA' nc' ns'/\Only wx.heap.size [B] wx w') (λwx _ _ _ q=>Zqq q qo hlen (Zuc h2 qs))
 have HREC:=qh (∀ wx {NA':OA} {nc':Nat},FSt w B base TA tc Ts AA ac as_ X NA d wx (a+1) NA' nc' ns->CL 196 #[.pointer (some ⟨B,0,none⟩)] wx (FGo w B base TA tc Ts AA ac as_ X NA d (prs Ts k (.bin true) (d+1+1) (a+1) ns))) (λwx NA' nc' q=>((ih k qo).bin true (d+1) (a+1) _ NA' nc' ns wx q.1 hin qo (by show 3+_<=k;omega)).mono (λe w' r=>FSt.igo hB q r))
 rw [Zsw hd h2]
 cases hr:prs Ts k (.bin true) (d+1+1) (a+1) ns with
 | out=>exact absurd hr hE.1
 | bad o =>
  rw [hr] at HREC
  dsimp only
  clear h1 h2 ih hn hE hr
  generalize kd Ts a=kk at *
  generalize tx Ts a=xx at *
  generalize nm Ts a=nn at *
  generalize of_ Ts a=oo at *
  go_enter_defers Tryz.func275,Tryz.ntmps275
  go_wp2_with fail
  clear hu
  (with_reducible refine HN.out.mono ?_)
  rintro e u1 ⟨rfl,hb1⟩
  have HF2:=qh (FSt w B base TA tc Ts AA ac as_ X NA d (u1.alloc (.cells #[.int .i64 kk,str xx,.int .i64 nn,.int .i64 oo] 101)) a NA nc ns) ((HF1.out.step hb1).alloc _)
  have HTB:=qh (Own (u1.alloc (.cells #[.int .i64 kk,str xx,.int .i64 nn,.int .i64 oo] 101)) u1.heap.size 101 [.int .i64 kk,str xx,.int .i64 nn,.int .i64 oo]) (Own.new u1 101 #[_,_,_,_])
  have hz1:=hb1.size
  have HF2':=hdQ (HF1.out.step hb1)
  obtain ⟨r0,r2,r3⟩:=HF2'.out.door
  have hzw:w.heap.size<u1.heap.size:=qo
  have htb:¬ u1.heap.size=B:=qo
  clear hb1 q0 q2 q3
  go_wp2_with fail
  (with_reducible refine (HI1.out _ HF2.out).mono ?_)
  rintro e u2 ⟨rfl,hf2,hb2⟩
  have HF20:=hdQ hf2
  have HT2:=hdQ (Own.step hb2 HTB.out)
  clear r0 r2 r3 hf2 hb2
  obtain ⟨r0,r2,r3⟩:=HF20.out.door
  go_wp2_with fail
  (with_reducible refine (HI2.out _ HF20.out).mono ?_)
  rintro e u3 ⟨rfl,hf3,hb3⟩
  have HF30:=hdQ hf3
  have HT3:=hdQ (Own.step hb3 HT2.out)
  clear r0 r2 r3 hf3 hb3
  obtain ⟨r0,r2,r3⟩:=HF30.out.door
  go_wp2_with fail
  (with_reducible refine (HNX.out _ HF30.out).mono ?_)
  rintro e u4 ⟨v4,rfl,hf4,hO4⟩
  have HF40:=hdQ hf4
  have HT4:=hdQ (hO4.own HT3.out HT3.out.lt (by simpa using htb))
  clear r0 r2 r3 hf4 hO4
  obtain ⟨r0,r2,r3⟩:=HF40.out.door
  go_wp2_with fail
  (with_reducible refine (HREC.out _ HF40.out).mono ?_)
  rintro e u5 ⟨rfl,hd5⟩
  have HD:=hdQ hd5
  clear hd5
  go_wp2_with fail
  exact Zd1 HD.out
 | ok v a1 n1 =>
  rw [hr] at HREC
  dsimp only
  have h6:=hE.2 v a1 n1 hr
  have h6':a+1+1<=a1/\a1<Ts.length:=h6
  by_cases h41:pk Ts a1=[41]
  ·rw [if_pos h41]
   have HND:=qh (∀ wx {NA':OA} {nc':Nat},FSt w B base TA tc Ts AA ac as_ X NA d wx a1 NA' nc' n1->CL 195 #[.pointer (some ⟨B,0,none⟩),.string ⟨#[41]⟩] wx λe w'=>e=.returned (.tuple #[])/\FSt w B base TA tc Ts AA ac as_ X NA d w' (a1+1) NA' nc' n1) (λwx NA' nc' q=>by have:=Zjk [41] wx q.1 h6'.2 hlen qs;rw [show decide (pk Ts a1=[41])=true by simp [h41]] at this;exact this.mono (λe w' r=>⟨r.2.1,q.next r.2.2 r.1⟩))
   clear h1 h2 ih hn hE hr h6 h41
   generalize kd Ts a=kk at *
   generalize tx Ts a=xx at *
   generalize nm Ts a=nn at *
   generalize of_ Ts a=oo at *
   go_enter_defers Tryz.func275,Tryz.ntmps275
   go_wp2_with fail
   clear hu
   (with_reducible refine HN.out.mono ?_)
   rintro e u1 ⟨rfl,hb1⟩
   have HF2:=qh (FSt w B base TA tc Ts AA ac as_ X NA d (u1.alloc (.cells #[.int .i64 kk,str xx,.int .i64 nn,.int .i64 oo] 101)) a NA nc ns) ((HF1.out.step hb1).alloc _)
   have HTB:=qh (Own (u1.alloc (.cells #[.int .i64 kk,str xx,.int .i64 nn,.int .i64 oo] 101)) u1.heap.size 101 [.int .i64 kk,str xx,.int .i64 nn,.int .i64 oo]) (Own.new u1 101 #[_,_,_,_])
   have hz1:=hb1.size
   have HF2':=hdQ (HF1.out.step hb1)
   obtain ⟨r0,r2,r3⟩:=HF2'.out.door
   have hzw:w.heap.size<u1.heap.size:=qo
   have htb:¬ u1.heap.size=B:=qo
   clear hb1 q0 q2 q3
   go_wp2_with fail
   (with_reducible refine (HI1.out _ HF2.out).mono ?_)
   rintro e u2 ⟨rfl,hf2,hb2⟩
   have HF20:=hdQ hf2
   have HT2:=hdQ (Own.step hb2 HTB.out)
   clear r0 r2 r3 hf2 hb2
   obtain ⟨r0,r2,r3⟩:=HF20.out.door
   go_wp2_with fail
   (with_reducible refine (HI2.out _ HF20.out).mono ?_)
   rintro e u3 ⟨rfl,hf3,hb3⟩
   have HF30:=hdQ hf3
   have HT3:=hdQ (Own.step hb3 HT2.out)
   clear r0 r2 r3 hf3 hb3
   obtain ⟨r0,r2,r3⟩:=HF30.out.door
   go_wp2_with fail
   (with_reducible refine (HNX.out _ HF30.out).mono ?_)
   rintro e u4 ⟨v4,rfl,hf4,hO4⟩
   have HF40:=hdQ hf4
   have HT4:=hdQ (hO4.own HT3.out HT3.out.lt (by simpa using htb))
   clear r0 r2 r3 hf4 hO4
   obtain ⟨r0,r2,r3⟩:=HF40.out.door
   go_wp2_with fail
   (with_reducible refine (HREC.out _ HF40.out).mono ?_)
   rintro e u5 ⟨NA5,nc5,rfl,hf5⟩
   have HF50:=hdQ hf5
   clear r0 r2 r3 hf5
   obtain ⟨r0,r2,r3⟩:=HF50.out.door
   go_wp2_with fail
   (with_reducible refine (HND.out _ HF50.out).mono ?_)
   rintro e u6 ⟨rfl,hf6⟩
   have HF9:=hdQ hf6
   clear hf6
   go_wp2_with fail
   refine Zio ?_ hd2 HF9.out
   simp [results,Tryz.results275,go_sem]
  ·rw [if_neg h41]
   have HND:=qh (∀ wx {NA':OA} {nc':Nat},FSt w B base TA tc Ts AA ac as_ X NA d wx a1 NA' nc' n1->CL 195 #[.pointer (some ⟨B,0,none⟩),.string ⟨#[41]⟩] wx λe w'=>e=.panicked (rej (of_ Ts a1))/\FD w B NA w') (λwx NA' nc' q=>by have:=Zjk [41] wx q.1 h6'.2 hlen qs;rw [show decide (pk Ts a1=[41])=false by simp [h41]] at this;exact this.mono (λe w' r=>⟨r.2.1,q.bad hB r.2.2 (r.1.mono' (λx hx=>by simp at hx;simp [hx]))⟩))
   clear h1 h2 ih hn hE hr h6 h41
   generalize of_ Ts a1=off at *
   generalize kd Ts a=kk at *
   generalize tx Ts a=xx at *
   generalize nm Ts a=nn at *
   generalize of_ Ts a=oo at *
   go_enter_defers Tryz.func275,Tryz.ntmps275
   go_wp2_with fail
   clear hu
   (with_reducible refine HN.out.mono ?_)
   rintro e u1 ⟨rfl,hb1⟩
   have HF2:=qh (FSt w B base TA tc Ts AA ac as_ X NA d (u1.alloc (.cells #[.int .i64 kk,str xx,.int .i64 nn,.int .i64 oo] 101)) a NA nc ns) ((HF1.out.step hb1).alloc _)
   have HTB:=qh (Own (u1.alloc (.cells #[.int .i64 kk,str xx,.int .i64 nn,.int .i64 oo] 101)) u1.heap.size 101 [.int .i64 kk,str xx,.int .i64 nn,.int .i64 oo]) (Own.new u1 101 #[_,_,_,_])
   have hz1:=hb1.size
   have HF2':=hdQ (HF1.out.step hb1)
   obtain ⟨r0,r2,r3⟩:=HF2'.out.door
   have hzw:w.heap.size<u1.heap.size:=qo
   have htb:¬ u1.heap.size=B:=qo
   clear hb1 q0 q2 q3
   go_wp2_with fail
   (with_reducible refine (HI1.out _ HF2.out).mono ?_)
   rintro e u2 ⟨rfl,hf2,hb2⟩
   have HF20:=hdQ hf2
   have HT2:=hdQ (Own.step hb2 HTB.out)
   clear r0 r2 r3 hf2 hb2
   obtain ⟨r0,r2,r3⟩:=HF20.out.door
   go_wp2_with fail
   (with_reducible refine (HI2.out _ HF20.out).mono ?_)
   rintro e u3 ⟨rfl,hf3,hb3⟩
   have HF30:=hdQ hf3
   have HT3:=hdQ (Own.step hb3 HT2.out)
   clear r0 r2 r3 hf3 hb3
   obtain ⟨r0,r2,r3⟩:=HF30.out.door
   go_wp2_with fail
   (with_reducible refine (HNX.out _ HF30.out).mono ?_)
   rintro e u4 ⟨v4,rfl,hf4,hO4⟩
   have HF40:=hdQ hf4
   have HT4:=hdQ (hO4.own HT3.out HT3.out.lt (by simpa using htb))
   clear r0 r2 r3 hf4 hO4
   obtain ⟨r0,r2,r3⟩:=HF40.out.door
   go_wp2_with fail
   (with_reducible refine (HREC.out _ HF40.out).mono ?_)
   rintro e u5 ⟨NA5,nc5,rfl,hf5⟩
   have HF50:=hdQ hf5
   clear r0 r2 r3 hf5
   obtain ⟨r0,r2,r3⟩:=HF50.out.door
   go_wp2_with fail
   (with_reducible refine (HND.out _ HF50.out).mono ?_)
   rintro e u6 ⟨rfl,hd6⟩
   have HD:=hdQ hd6
   clear hd6
   go_wp2_with fail
   exact Zd1 HD.out
theorem I_prs {B base:Nat} {TA:OA} {tc:Nat} {Ts:List Zam} {AA:OA} {ac:Nat} {as_:List Zab} (hk:TokK Ts):∀ n,IPc B base TA tc Ts AA ac as_ n:=by
 intro n
 induction n using Nat.strongRecOn with
 | ind n ih =>
  refine ⟨λadd d a X NA nc ns w h ha hd hn=>I_bin hk ih add w h ha hd hn,λd a X NA nc ns w h ha hd hn=>?_,λname d a X NA nc ns w h ha hd hp hn=>I_call hk ih name w h ha hd hp hn⟩
  obtain ⟨k,rfl⟩:∃ k,n=k+1:=⟨n-1,qo⟩
  by_cases h64:64<d+1
  ·exact I_fac0 hk w h ha h64 hd
  by_cases h1:pk Ts a=[45]
  ·exact I_facM hk ih w h ha h64 h1 hn
  by_cases h2:pk Ts a=[40]
  ·exact I_facP hk ih w h ha h64 h2 hn
  by_cases h3:kd Ts a=1
  ·exact I_facN hk ih w h ha h64 h1 h2 h3 hn
  by_cases h4:kd Ts a=2
  ·by_cases hq:pk Ts (a+1)=[40]
   ·exact I_facC hk ih w h ha h64 h1 h2 h4 hq hn
   ·exact I_facV hk ih w h ha h64 h1 h2 h4 hq hn
  ·exact I_facX hk ih w h ha h64 h1 h2 h3 h4 hn
theorem tokz_off {src:List UInt8}:∀ (n a:Nat) (l r:List Zam),(∀ x∈l,(0:Int)<=x.2.2.2)->tokz src n a l=.ok r->∀ x∈r,(0:Int)<=x.2.2.2 :=
 λn a l r hl h=>Zsl (Pt:=λx=>(0:Int)<=x.2.2.2) (λa k m v _=>by show (0:Int)<=(a:Int);omega) n a l r hl h
theorem tokz_len {src:List UInt8}:∀ (n a:Nat) (l r:List Zam),tokz src n a l=.ok r->l.length<=a->a<=src.length->r.length<=src.length:=by
 intro n
 induction n with
 | zero=>intro a l r h hl ha;injection h with h;subst h;omega
 | succ n ih =>
  intro a l r h hl ha
  rcases Nat.lt_or_ge a src.length with hlt|hge
  ·have hb:=List.getElem?_eq_getElem hlt
   cases hsp:Zgb src[a] with
   | true=>rw [Zea hb hsp] at h;exact ih _ _ _ h qo qo
   | false =>
    cases hk:Zaq (src.drop a) with
    | none=>rw [Zh4 hb hsp hk] at h;cases h
    | some x =>
     obtain ⟨k,m,v⟩:=x
     rw [Zgw hb hsp hk] at h
     have:=Zc7 hk
     rw [List.length_drop] at this
     exact ih _ _ _ h (by simp;omega) qo
  ·rw [Zer hge] at h;injection h with h;subst h;omega
theorem Zv6 {src:List UInt8} {T:List Zam} (h:toksF src=.ok T):TokK T/\T.length<=2001:=by
 have h0:=Zju h
 unfold toksF at h
 split at h
 ·cases h
 ·rename_i hlen
  cases hz:tokz src (src.length+1) 0 [] with
  | error o=>rw [hz] at h;cases h
  | ok r =>
   rw [hz] at h
   have h2:r++[(0,[],0,(src.length:Int))]=T:=by injection h
   subst h2
   have h3:=tokz_off _ _ _ _ qs hz
   have h4:=tokz_len _ _ _ _ hz qs (Nat.zero_le _)
   refine ⟨⟨h0,λi=>?_,by simp;omega⟩,by simp;omega⟩
   unfold of_ tk
   rcases Nat.lt_or_ge i (r++[((0:Int),([]:List UInt8),(0:Int),(src.length:Int))]).length with hi|hi
   ·have hm:=List.getElem_mem hi
    rw [List.getD_eq_getElem?_getD,List.getElem?_eq_getElem hi]
    rcases List.mem_append.1 hm with hm|hm
    ·exact h3 _ hm
    ·rw [List.mem_singleton.1 hm];show (0:Int)<=_;simp
   ·rw [List.getD_eq_getElem?_getD,List.getElem?_eq_none hi];exact Int.le_refl _
theorem Zs6 {src:List UInt8} {o:Nat} (h:toksF src=.error o):parF src=(([],[]),(o:Int)):=by unfold parF;rw [h]
theorem Zw0 {src:List UInt8} {T:List Zam} (h:toksF src=.ok T):parF src=Zpi T:=by unfold parF;rw [h]
theorem Zs5 {T:List Zam} {p:Zag} (h:asg T (Zc1 T) (T.length+1) 0 [] []=some (.ok p)):Zpi T=(p, -1):=by unfold Zpi;rw [h]
theorem Zkn {T:List Zam} {o:Int} (h:asg T (Zc1 T) (T.length+1) 0 [] []=some (.error o)):Zpi T=(([],[]),o):=by unfold Zpi;rw [h]
theorem Zxw {T:List Zam} {N n a:Nat} {ns:List Zac} {l:List Zab} (h:kd T a=0):asg T N (n+1) a ns l=some (.ok (ns,l)):=by rw [asg,if_pos h]
theorem Zth {T:List Zam} {N n a:Nat} {ns:List Zac} {l:List Zab} (h:kd T a≠0) (h2:kd T a≠2):asg T N (n+1) a ns l=some (.error (of_ T a)):=by rw [asg,if_neg h,if_pos h2]
theorem asg_eq {T:List Zam} {N n a:Nat} {ns:List Zac} {l:List Zab} (h:kd T a=2) (h2:pk T (a+1)≠[61]):asg T N (n+1) a ns l=some (.error (of_ T (a+1))):=by rw [asg,if_neg (by rw [h];decide),if_neg (λq=>q h),if_pos h2]
theorem Zxy {T:List Zam} {N n a:Nat} {ns:List Zac} {l:List Zab} {o:Int} (h:kd T a=2) (h2:pk T (a+1)=[61]) (hr:prs T N (.bin true) 1 (a+2) ns=.bad o):asg T N (n+1) a ns l=some (.error o):=by rw [asg,if_neg (by rw [h];decide),if_neg (λq=>q h),if_neg (λq=>q h2),hr]
theorem Ztf {T:List Zam} {N n a a1:Nat} {ns n1:List Zac} {l:List Zab} {v:Int} (h:kd T a=2) (h2:pk T (a+1)=[61]) (hr:prs T N (.bin true) 1 (a+2) ns=.ok v a1 n1) (hp:pk T a1≠[59]):asg T N (n+1) a ns l=some (.error (of_ T a1)):=by rw [asg,if_neg (by rw [h];decide),if_neg (λq=>q h),if_neg (λq=>q h2),hr];simp only [if_neg hp]
theorem Ztg {T:List Zam} {N n a a1:Nat} {ns n1:List Zac} {l:List Zab} {v:Int} (h:kd T a=2) (h2:pk T (a+1)=[61]) (hr:prs T N (.bin true) 1 (a+2) ns=.ok v a1 n1) (hp:pk T a1=[59]):asg T N (n+1) a ns l=asg T N n (a1+1) n1 (l++[(tx T a,v)]):=by rw [asg,if_neg (by rw [h];decide),if_neg (λq=>q h),if_neg (λq=>q h2),hr];simp only [if_pos hp]
theorem Zcv {w u v:World} {G:List Nat} (h:Bw w u) (k:Only u.heap.size G u v) (hG:∀ x,x∈G->w.heap.size<=x):Bw w v :=
 ⟨k.os.trans h.os,k.tape.trans h.tape,k.output.trans h.output,Nat.le_trans h.size k.size,λb hb=>(k.block b (Nat.lt_of_lt_of_le hb h.size) (λq=>by have:=hG b q;omega)).trans (h.block b hb)⟩
def AsgInv (B base:Nat) (TA:OA) (tc:Nat) (Ts:List Zam) (R:Except Int Zag) (w:World) (k:Nat) (wr:World):Prop :=
 ∃ (AA:OA) (ac:Nat) (as_:List Zab) (a:Nat) (NA:OA) (nc:Nat) (ns:List Zac) (f:Nat),Za1 wr B base TA tc Ts AA ac as_ (List.range base) a NA nc ns (-1)/\a<Ts.length/\f<=k/\Ts.length-a<f/\asg Ts (Zc1 Ts) f a ns as_=some R/\as_.length<=a /\
  Own wr w.heap.size 62 [.slice none 0 0,.slice none 0 0]/\Bw w wr
set_option maxHeartbeats 16000000 in
theorem Zyc {src:List UInt8} (w:World) (hs:src.length<=1048576) :
  CL 21 #[str src] w (Zbo src w):=by
 have HTK:=qh (∀ wx,CL 59 #[str src] wx (Zcn src 101 wx)) (λwx=>Zu8 wx hs)
 cases ht:toksF src with
 | error o =>
  have HF:=hdQ (Zs6 ht)
  have HT2:=qh (∀ wx,CR 59 #[str src] wx (.tuple #[.slice none 0 0,.int .i64 o])) (λwx=>(HTK.out wx).mono (λe w' h=>by unfold Zcn at h;rw [ht] at h;exact h))
  clear HTK ht
  go_enter Tryz.func21,Tryz.ntmps21
  go_wp2_with fail
  refine (HT2.out _).mono ?_
  rintro e w1 ⟨rfl,hb1⟩
  have hz1:=hb1.size
  (try simp at hz1)
  have HB1:=bh w hb1
  have HO1:=qh (Own w1 w.heap.size 62 [.slice none 0 0,.slice none 0 0]) (Own.step hb1 (Own.new w 62 #[_,_]))
  have c0:=HO1.out.cell 0
  have c1:=HO1.out.cell 1
  have cf:=HO1.out.frozen
  (try dsimp only [List.getElem?_cons_succ,List.getElem?_cons_zero] at c0 c1)
  clear hb1
  go_wp2_with fail
  exact bodyPost_ret (v:=.tuple #[.agg #[.slice none 0 0,.slice none 0 0],.int .i64 o]) (by simp [results,Tryz.results21,go_sem, *]) rfl (Zbo.mk_ HF.out rfl rfl (Zcb.nil _ _) bll)
 | ok Ts =>
  have HPF:=hdQ (Zw0 ht)
  obtain ⟨hk,hl2⟩:=Zv6 ht
  obtain ⟨R,hR⟩:=Ztj hk.ok (N:=Zc1 Ts) (Nat.le_refl _) (Ts.length+1) 0 [] [] hk.ok.pos qo
  have HR:=hdQ hR
  have HT2:=qh (∀ wx,CL 59 #[str src] wx λe w'=>∃ g c,e=.returned (.tuple #[.slice (some ⟨g,0,none⟩) Ts.length c,.int .i64 (-1)])/\Zaj w' wx.heap.size 101 4 (some ⟨g,0,none⟩) Ts.length c (Zip Ts)/\Bw wx w') (λwx=>(HTK.out wx).mono (λe w' h=>by
   unfold Zcn at h
   rw [ht] at h
   obtain ⟨A,c,rfl,hg,hb⟩:=h
   rcases hg.shape with ⟨_,h0,_⟩|⟨g,cur,rfl,_⟩
   ·have:=hk.ok.pos;omega
   ·exact ⟨g,c,rfl,hg,hb⟩))
  clear HTK ht hR
  go_enter Tryz.func21,Tryz.ntmps21
  go_wp2_with fail
  refine (HT2.out _).mono ?_
  rintro e w1 ⟨g,tc,rfl,hg1,hb1⟩
  have hz1:=hb1.size
  rw [World.size_alloc] at hg1
  (try simp at hz1)
  have HB1:=bh w hb1
  have HX1:=qh (Own w1 w.heap.size 62 [.slice none 0 0,.slice none 0 0]) (Own.step hb1 (Own.new w 62 #[_,_]))
  have HG1:=hdQ hg1
  clear hb1 hg1
  have HIV:=qh (AsgInv w1.heap.size (w.heap.size+1) (some ⟨g,0,none⟩) tc Ts R w (Ts.length+1) (w1.alloc (.cells #[.slice (some ⟨g,0,none⟩) Ts.length tc,.int .i64 0,.slice none 0 0,.slice none 0 0,.int .i64 (-1)] 99))) ⟨none,0,[],0,none,0,[],Ts.length+1,⟨Own.new w1 99 #[_,_,_,_,_],⟨(HG1.out.alloc _).rs,Zaj.nil _ _ _ _,⟨[],Zaj.nil _ _ _ _,Zb9.nil _ _ _,Zfb.nil _⟩,λx hx=>⟨by have:=HG1.out.lt x hx;omega,by simp [gOf],by simp [gOf],by have:=HG1.out.ge x hx;simp;omega⟩,λx hx=>by simp [gOf] at hx,λx hx=>by simp [gOf] at hx,by simp;omega,qs,λx hx=>by have:=HG1.out.lt x hx;simp;omega,λx hx=>by simp at hx ⊢;omega,qs⟩⟩,hk.ok.pos,Nat.le_refl _,qo,HR.out,qs,HX1.out.alloc _,bll⟩
  have HK:=hdQ hk
  clear hk
  go_wp2_with fail
  generalize hBd:w1.heap.size=B at *
  have hwB:w.heap.size+1<=B:=hz1
  clear hBd
  go_loopg [7,8] (Ts.length+1) (λgg _ _ wr=>AsgInv B (w.heap.size+1) (some ⟨g,0,none⟩) tc Ts R w gg wr)
  case atStart=>exact HIV.out
  case round =>
   obtain ⟨AA,ac,as_,a,NA,nc,ns,f,hst,ha,hf1,hf2,hR,hal,hbx,hbl⟩:=hrel
   obtain ⟨wo,rfl⟩:=qe wr
   obtain ⟨f',rfl⟩:∃ f',f=f'+1:=⟨f-1,qo⟩
   obtain ⟨hB,c0,c1,_,_,c4,cf⟩:=hst.cells
   obtain ⟨ht1,ht2,b,o,hTA,hb,hbB,t0,t1,t2,t3⟩:=hst.2.tokAt ha
   simp only [Option.some.injEq,Addr.mk.injEq,and_true] at hTA
   obtain ⟨rfl,rfl⟩:=hTA
   rw [Nat.zero_add] at t0 t1 t2 t3
   unfold maxLen at ht2
   have ha':(a:Int)<Ts.length:=qo
   have hbz:=hbl.size
   have hbP:=hbx.lt
   have HS:=hdQ hst
   have HX:=hdQ hbx
   have HB:=hdQ hbl
   have HRA:=hdQ hR
   have hw1:w.heap.size≠B:=qo
   have hwB':=hwB
   have HPB:=qh (w.heap.size≠B) hw1
   have hlen:=HK.out.len
   clear hst hbx hbl HIV hR hw1
   obtain ⟨k,hk⟩:=qv (kd Ts a)
   have HKD:=hdQ hk
   obtain ⟨x,hx⟩:=qv (tx Ts a)
   obtain ⟨m,hm⟩:=qv (nm Ts a)
   obtain ⟨q,hq⟩:=qv (of_ Ts a)
   rw [hk] at t0
   rw [hx] at t1
   rw [hm] at t2
   rw [hq] at t3
   have HXE:=hdQ hx
   have HME:=hdQ hm
   have HQE:=hdQ hq
   clear hk hx hm hq
   by_cases k0:k=0
   ·subst k0
    have hRR:R=.ok (ns,as_):=by
     have:=HRA.out
     rw [Zxw HKD.out] at this
     injection this with this
     exact this.symm
    have HF:=qh (parF src=((ns,as_), -1)) (by rw [HPF.out];exact Zs5 (by rw [HR.out,hRR]))
    have hasl:as_.length<=1048576:=qo
    clear hRR HRA
    have hPB:=HPB.out
    have hBP:¬ B=w.heap.size:=λe=>HPB.out e.symm
    go_wp2_with fail
    go_quiet (fail)
    have HSq:=qh (Za1 (wo.drewN nq) B (w.heap.size+1) (some ⟨g,0,none⟩) tc Ts AA ac as_ (List.range (w.heap.size+1)) a NA nc ns (-1)) (HS.out.drewN nq)
    have HXq:=qh (Own (wo.drewN nq) w.heap.size 62 [.slice none 0 0,.slice none 0 0]) (HX.out.drewN nq)
    have HBq:=qh (Bw w (wo.drewN nq)) (Zcp HB.out nq)
    clear HS HX HB c0 c1 c4 cf t0 t1 t2 t3 hB hb hbP hbz
    generalize wo.drewN nq=wq at *
    obtain ⟨hB,c0,c1,c2,c3,c4,cf⟩:=HSq.out.cells
    have y0:=HXq.out.cell 0
    have y1:=HXq.out.cell 1
    have yf:=HXq.out.frozen
    have yz:=HXq.out.lt
    have yB:=HBq.out.size
    (try dsimp only [List.getElem?_cons_succ,List.getElem?_cons_zero] at y0 y1)
    have HFN:=hdQ (Own.set_ (Own.set_ HXq.out 0 (.slice NA ns.length nc)) 1 (.slice AA as_.length ac))
    go_wp2_with fail
    have z0:=HFN.out.cell 0
    have z1:=HFN.out.cell 1
    simp only [List.set_cons_zero,List.set_cons_succ,List.getElem?_cons_succ,List.getElem?_cons_zero] at z0 z1
    refine bodyPost_ret (v:=.tuple #[.agg #[.slice NA ns.length nc,.slice AA as_.length ac],.int .i64 (-1)]) (by simp [results,Tryz.results21,go_sem,z0,z1]) rfl (Zbo.mk_ HF.out rfl rfl (Zcb.mono (PMem.progM (base:=w.heap.size+1) (B:=B) (TA:=some ⟨g,0,none⟩) (tc:=tc) (T:=Ts) ?_ hasl) qo) bll)
    refine HSq.out.2.keepX qs (λz h1 h2 h3=>?_)
    have hz:z≠w.heap.size:=λe=>h2 (by rw [e];simp)
    rw [Below.heap_setCell _ _ _ _ (by exact hz),Below.heap_setCell _ _ _ _ (by exact hz)]
   ·have e0:(k != 0)=true:=by simpa using k0
    have e00:(k==0)=false:=by simpa using k0
    have HK0:=hdQ k0
    clear k0
    have hin:=Zjn HK.out.ok ha (by rw [HKD.out];exact HK0.out)
    go_wp2_with fail
    go_quiet (fail)
    go_wp2_with fail
    have HSq:=qh (Za1 (wo.drewN nq) B (w.heap.size+1) (some ⟨g,0,none⟩) tc Ts AA ac as_ (List.range (w.heap.size+1)) a NA nc ns (-1)) (HS.out.drewN nq)
    have HXq:=qh (Own (wo.drewN nq) w.heap.size 62 [.slice none 0 0,.slice none 0 0]) (HX.out.drewN nq)
    have HBq:=qh (Bw w (wo.drewN nq)) (Zcp HB.out nq)
    clear HS HX HB c0 c1 c4 cf t0 t1 t2 t3 hB hb hbP hbz
    generalize wo.drewN nq=wq at *
    have HS:=HSq
    have HX:=HXq
    have HB:=HBq
    clear HSq HXq HBq
    obtain ⟨wo,rfl⟩:=qe wq
    obtain ⟨hB,c0,c1,_,_,c4,cf⟩:=HS.out.cells
    obtain ⟨_,_,b,o,hTA,hb,_,t0,t1,t2,t3⟩:=HS.out.2.tokAt ha
    simp only [Option.some.injEq,Addr.mk.injEq,and_true] at hTA
    obtain ⟨rfl,rfl⟩:=hTA
    rw [Nat.zero_add,HKD.out] at t0
    rw [Nat.zero_add,HXE.out] at t1
    rw [Nat.zero_add,HME.out] at t2
    rw [Nat.zero_add,HQE.out] at t3
    have hbz:=HB.out.size
    have hbP:=HX.out.lt
    go_region_held3 (λw'=>w'.cell? ⟨B,0,none⟩=some (.slice (some ⟨g,0,none⟩) Ts.length tc)/\w'.cell? ⟨B,1,none⟩=some (.int .i64 a)/\w'.cell? ⟨g,a*4,none⟩=some (.int .i64 k)/\w'.cell? ⟨g,a*4+1,none⟩=some (str x)/\w'.cell? ⟨g,a*4+2,none⟩=some (.int .i64 m)/\w'.cell? ⟨g,a*4+3,none⟩=some (.int .i64 q))
     (first|((try dsimp only);refine ⟨?_, ?_, ?_, ?_, ?_, ?_⟩<;>(go_simp;done))|go_keep)
     (fail)
    have hBw:=HPB.out
    have hB1:w.heap.size+1<=B:=hwB
    have HAB:=qh (∀ y,y∈B::gOf NA->w.heap.size+1<=y/\y<wo.heap.size) (λy hy=>by
     rcases List.mem_cons.1 hy with rfl|hy
     ·exact ⟨hB1,hB⟩
     ·obtain ⟨cs,hg,_⟩:=HS.out.2.nod
      exact ⟨by have:=(HS.out.2.apN y hy).2.2;simp at this;omega,hg.lt y hy⟩)
    have HAT:=qh (wo.heap.size∉gOf AA) (λq=>by have:=HS.out.2.ass.lt _ q;omega)
    have HS1:=qh (Za1 (World.drew (wo.alloc (.cells #[.int .i64 k,str x,.int .i64 m,.int .i64 q] 101))) B (w.heap.size+1) (some ⟨g,0,none⟩) tc Ts AA ac as_ (List.range (w.heap.size+1)) a NA nc ns (-1)) (Za1.drew (Za1.alloc HS.out _))
    have HT1:=qh (Box (World.drew (wo.alloc (.cells #[.int .i64 k,str x,.int .i64 m,.int .i64 q] 101))) wo.heap.size [.int .i64 k,str x,.int .i64 m,.int .i64 q]) (Box.of_own (Own.drew (Own.new wo 101 #[.int .i64 k,str x,.int .i64 m,.int .i64 q])))
    have HX1':Hid (Own (World.drew (wo.alloc (.cells #[.int .i64 k,str x,.int .i64 m,.int .i64 q] 101))) w.heap.size 62 [.slice none 0 0,.slice none 0 0]):=hdQ (Own.drew (HX.out.alloc _))
    have HB1':Hid (Bw w (World.drew (wo.alloc (.cells #[.int .i64 k,str x,.int .i64 m,.int .i64 q] 101)))):=hdQ bll
    have hu1z:wo.heap.size+1=(World.drew (wo.alloc (.cells #[.int .i64 k,str x,.int .i64 m,.int .i64 q] 101))).heap.size:=by simp [World.drew]
    generalize World.drew (wo.alloc (.cells #[.int .i64 k,str x,.int .i64 m,.int .i64 q] 101))=u1 at *
    obtain ⟨tz,x0,x1,x2,x3⟩:=HT1.out.open4
    have hq0:(0:Int)<=q:=by have:=HK.out.off a;rw [HQE.out] at this;exact this
    have HFL:=hdQ (Zcr u1 HS1.out ha)
    rw [HQE.out] at HFL
    clear t0 t1 t2 t3 c0 c1 c4 cf
    by_cases k2:k=2
    ·subst k2
     obtain ⟨dB,_,d1,_,_,d4,df⟩:=HS1.out.cells
     have hTB:¬ wo.heap.size=B:=qo
     have hSA:Za1 (u1.setCell ⟨B,1,none⟩ (.int .i64 ((a:Int)+1))) B (w.heap.size+1) (some ⟨g,0,none⟩) tc Ts AA ac as_ (List.range (w.heap.size+1)) (a+1) NA nc ns (-1):=by have:=HS1.out.setAt (a+1);simpa using this
     have hOA:Only u1.heap.size [B] u1 (u1.setCell ⟨B,1,none⟩ (.int .i64 ((a:Int)+1))):=(Only.refl _ _ _).setCell qs _
     have HXP:=hdQ (Zf2 [61] _ hSA hin hlen)
     have HSA:=hdQ hSA
     have HOA:=hdQ hOA
     clear hSA hOA
     by_cases h61:pk Ts (a+1)=[61]
     ·rw [h61] at HXP
      have HXP1:Hid (CL 61 #[.pointer (some ⟨B,0,none⟩),.string ⟨#[61]⟩] (u1.setCell ⟨B,1,none⟩ (.int .i64 ((a:Int)+1))) (Zyd B (w.heap.size+1) (some ⟨g,0,none⟩) tc Ts AA ac as_ (List.range (w.heap.size+1)) (a+1) NA nc ns true (u1.setCell ⟨B,1,none⟩ (.int .i64 ((a:Int)+1))))):=hdQ HXP.out
      clear HXP
      have hin2:=Zdg HK.out.ok hin (by rw [h61];simp)
      have hE:=Zbq HK.out.ok (Zc1 Ts) (.bin true) 1 (a+2) ns hin2 (by unfold Zc1;show 3+_<=_;omega)
      have HEX:=qh (∀ wx,Za1 wx B (w.heap.size+1) (some ⟨g,0,none⟩) tc Ts AA ac as_ (List.range (w.heap.size+1)) (a+2) NA nc ns (-1)->CL 62 #[.pointer (some ⟨B,0,none⟩),.int .i64 1] wx (PGo B (w.heap.size+1) (some ⟨g,0,none⟩) tc Ts AA ac as_ (List.range (w.heap.size+1)) NA (prs Ts (Zc1 Ts) (.bin true) 1 (a+2) ns) wx)) (λwx hx=>by have:=Zep (S_prs HK.out (Zc1 Ts)) (d:=1) wx hx hin2 qo (by unfold Zc1;omega);simpa using this)
      go_wp2_with fail
      refine HXP1.out.mono ?_
      rintro e u2 ⟨rfl,hO2,hs2,_⟩
      have HS2:=hdQ (hs2 rfl)
      have hO12:Only u1.heap.size [B] u1 u2:=HOA.out.sub hO2 qs (λy hy=>.inl hy)
      have HX2:=hdQ (hO12.own HX1'.out qo (by simp;exact HPB.out))
      have HT2':=hdQ (Box.only hO12 HT1.out tz (by simp;exact hTB))
      have HB2:=hdQ (Zcv HB1'.out hO12 (λy hy=>by simp at hy;omega))
      have hz12:=hO12.size
      clear hO2 hs2 hO12 x0 x1 x2 x3 d1 d4 df
      cases hr:prs Ts (Zc1 Ts) (.bin true) 1 (a+2) ns with
      | out=>exact absurd hr hE.1
      | bad o =>
       rw [hr] at HEX
       have hRR:R=.error o:=by
        have:=HRA.out
        rw [Zxy HKD.out h61 hr] at this
        injection this with this
        exact this.symm
       have HF:=qh (parF src=(([],[]),o)) (by rw [HPF.out];exact Zkn (by rw [HR.out,hRR]))
       clear hRR HRA hr h61 hE
       go_wp2_with fail
       refine (HEX.out _ HS2.out).mono ?_
       rintro e u3 ⟨r,b0,b1,b2,b3,rfl,hw3,ho,hO3⟩
       have HW3:=hdQ hw3
       have HX3:=hdQ (hO3.own HX2.out qo (λhy=>by have:=HAB.out _ hy;omega))
       have HB3:=hdQ (Zcv HB2.out hO3 (λy hy=>by have:=HAB.out y hy;omega))
       clear hw3 hO3
       have zB:=HW3.out.lt
       have zP:=HX3.out.lt
       have g4:=HW3.out.cell 4
       have y0:=HX3.out.cell 0
       have y1:=HX3.out.cell 1
       have yf:=HX3.out.frozen
       (try dsimp only [List.getElem?_cons_succ,List.getElem?_cons_zero] at g4 y0 y1)
       have hPB:¬ w.heap.size=B:=qo
       have hBP:¬ B=w.heap.size:=qo
       go_wp2_with fail
       go_region_held3 (λw'=>w'.cell? ⟨B,4,none⟩=some (.int .i64 (o)))
        (first|((try dsimp only);(go_simp;done))|go_keep)
        (fail)
       all_goals
        go_wp2_with fail
        exact bodyPost_ret (v:=.tuple #[.agg #[.slice none 0 0,.slice none 0 0],.int .i64 (o)]) (by simp [results,Tryz.results21,go_sem, *]) rfl (Zbo.mk_ HF.out rfl rfl (Zcb.nil _ _) bll)
      | ok v a1 n1 =>
       rw [hr] at HEX
       have h6:a+2+1<=a1/\a1<Ts.length:=hE.2 v a1 n1 hr
       go_wp2_with fail
       refine (HEX.out _ HS2.out).mono ?_
       rintro e u3 ⟨NA3,nc3,rfl,hs3,hO3,hS3⟩
       have HS3:=hdQ hs3
       have HX3:=hdQ (hO3.own HX2.out qo (λhy=>by have:=HAB.out _ hy;omega))
       have HT3:=hdQ (Box.only hO3 HT2'.out qo (λhy=>by have:=HAB.out _ hy;omega))
       have HB3:=hdQ (Zcv HB2.out hO3 (λy hy=>by have:=HAB.out y hy;omega))
       have HXP3:=hdQ (Zf2 [59] u3 hs3 h6.2 hlen)
       have g4':=hs3.cells.2.2.2.2.2.1
       have hz23:=hO3.size
       clear hs3 hO3 hE
       by_cases h59:pk Ts a1=[59]
       ·rw [h59] at HXP3
        have HXP4:=qh (CL 61 #[.pointer (some ⟨B,0,none⟩),.string ⟨#[59]⟩] u3 (Zyd B (w.heap.size+1) (some ⟨g,0,none⟩) tc Ts AA ac as_ (List.range (w.heap.size+1)) a1 NA3 nc3 n1 true u3)) HXP3.out
        have hin4:=Zdg HK.out.ok h6.2 (by rw [h59];simp)
        have hRN:asg Ts (Zc1 Ts) f' (a1+1) n1 (as_++[(x,v)])=some R:=by
         have:=HRA.out
         rw [Ztg HKD.out h61 hr h59,HXE.out] at this
         exact this
        have HRN:=hdQ hRN
        clear hRN HRA hr h61 h59 HXP3
        go_wp2_with fail
        refine HXP4.out.mono ?_
        rintro e u4 ⟨rfl,hO4,hs4,_⟩
        have HS4:=hdQ (hs4 rfl)
        have HX4:=hdQ (hO4.own HX3.out qo (by simp;exact HPB.out))
        have HT4:=hdQ (Box.only hO4 HT3.out qo (by simp;exact hTB))
        have HB4:=hdQ (Zcv HB3.out hO4 (λy hy=>by simp at hy;omega))
        have hz34:=hO4.size
        clear hs4 hO4 g4'
        obtain ⟨zB,_,_,_,d3,_,df⟩:=HS4.out.cells
        obtain ⟨tz4,_,x1,_,_⟩:=HT4.out.open4
        have hBT:¬ B=wo.heap.size:=λe=>hTB e.symm
        have hasl:as_.length<=2001:=qo
        have hlow:=HS4.out.2.low
        have HGA:=hdQ HS4.out.2.ass
        go_wp2_with fail
        refine Zbc (S:=(λw'=>w'.cell? ⟨B,3,none⟩=some (.slice AA as_.length ac)/\w'.frozen? ⟨B,3,none⟩=false/\w'.cell? ⟨wo.heap.size,1,none⟩=some (str x))) 15 kr (by (try dsimp only);refine ⟨?_, ?_, ?_⟩<;>(go_simp;done)) (λhHeld=>?_)
        refine tkM 0 ?_
        refine tkM 1 ?_
        refine tkM 2 ?_
        refine tkM 3 ?_
        refine tkM 4 ?_
        refine tkM 5 ?_
        refine tkM 6 ?_
        refine tkM 7 ?_
        refine tkM 8 ?_
        refine tkM 9 ?_
        refine Zaa (i:=10) rfl kr (λK10 hK10=>?_)
        go_simp
        refine hK10.out _ _ (λ_=>by (try dsimp only);refine ⟨?_, ?_, ?_⟩<;>(go_simp;done)) (λhHeld10=>?_)
        have hX10:=hHeld10 qd
        refine Zaa (i:=11) rfl kr (λK11 hK11=>?_)
        (refine Zcs qr _ _ 60 qr (w.heap.size+1) 106 (.agg #[.string ByteArray.empty,.int .i64 0]) 2 24 Tryz.underlying60 T.infoAss rfl qd (xs:=Zjb as_) qr ?_ (ys:=Zjb [(x,v)]) qr ?_ (Znq _) ?_ ?_ ?_ ?_;(exact (gwx HGA.out));(exact (ltt 1));(unfold maxLen;omega);(omega);(first|omega|(simp<;>omega));rintro A' c' w2 gA)
        have hsa:=gA.2.2.2.1
        (try simp at hsa)
        have hem:=PMem.assign HS4.out.2 bll gA
        have hAA:=HS4.out.2.ass.lt
        have hAX:=HS4.out.2.apA
        have ho2:Own w2 B 99 [.slice (some ⟨g,0,none⟩) Ts.length tc,.int .i64 ((a1+1:Nat):Int),.slice NA3 n1.length nc3,.slice AA as_.length ac,.int .i64 (-1)]:=hem.2.1.own HS4.out.1 zB (λhN=>(hAX B hN).1 rfl)
        have hx2:Own w2 w.heap.size 62 [.slice none 0 0,.slice none 0 0]:=hem.2.1.own HX4.out HX4.out.lt (λhN=>by have:=(hAX _ hN).2;simp at this)
        have hb2:Bw w w2:=Zcv HB4.out hem.2.1 (λy hy=>by have:=(hAX y hy).2;simp at this;omega)
        have hA4:wo.heap.size∉gOf AA:=HAT.out
        have ht2':Box w2 wo.heap.size [.int .i64 2,str x,.int .i64 m,.int .i64 q]:=Box.only hem.2.1 HT4.out tz4 hA4
        have HO2:=hdQ ho2
        have HX5:=hdQ hx2
        have HB5:=hdQ hb2
        have HT5:=hdQ ht2'
        have HE2:=hdQ hem.1
        have k3:=ho2.cell 3
        have kf:=ho2.frozen 3
        have kx:=ht2'.open4.2.2.1
        have kB:=ho2.lt
        (try dsimp only [List.getElem?_cons_succ,List.getElem?_cons_zero] at k3)
        clear gA hem ho2 hx2 hb2 ht2' hAA hAX
        refine hK11.out _ _ (λ_=>by (try dsimp only);refine ⟨?_, ?_, ?_⟩<;>(go_simp;done)) (λhHeld11=>?_)
        have hX11:=hHeld11 qd
        refine Zaa (i:=12) rfl kr (λK12 hK12=>?_)
        go_simp
        refine hK12.out _ _ (λ_=>hX11) (λhHeld12=>?_)
        have hX12:=hHeld12 qd
        refine Zaa (i:=13) rfl kr (λK13 hK13=>?_)
        go_simp
        refine hK13.out _ _ (λ_=>hX12) (λhHeld13=>?_)
        have hX13:=hHeld13 qd
        refine Zaa (i:=14) rfl kr (λK14 hK14=>?_)
        go_simp
        refine hK14.out _ _ (λ_=>hX13) (λhHeld14=>?_)
        have hX14:=hHeld14 qd
        refine Zaa (i:=15) rfl kr (λK15 hK15=>?_)
        go_simp
        refine hK15.out _ _ (λh=>absurd rfl h) (λhHeld15=>?_)
        refine Zbd kr ?_ _
        have hst:Za1 (w2.setCell ⟨B,3,none⟩ (.slice A' (as_.length+1) c')) B (w.heap.size+1) (some ⟨g,0,none⟩) tc Ts A' c' (as_++[(x,v)]) (List.range (w.heap.size+1)) (a1+1) NA3 nc3 n1 (-1):=⟨by have:=HO2.out.set_ 3 (.slice A' (as_.length+1) c');simpa using this,HE2.out.set_ 3 _⟩
        have HSF:=hdQ hst
        have HXF:=qh (Own (w2.setCell ⟨B,3,none⟩ (.slice A' (as_.length+1) c')) w.heap.size 62 [.slice none 0 0,.slice none 0 0]) (HX5.out.far (by simp;exact HPB.out) _)
        have HBF:=qh (Bw w (w2.setCell ⟨B,3,none⟩ (.slice A' (as_.length+1) c'))) (Below.setCell HB5.out (by simp;omega) _)
        generalize w2.setCell ⟨B,3,none⟩ (.slice A' (as_.length+1) c')=w3 at *
        clear hst hX10 hX11 hX12 hX13 hX14 hHeld k3 kf kx
        go_wp2_with fail
        go_roundg (gk-1)
        case measure=>omega
        case rel=>exact ⟨A',c',as_++[(x,v)],a1+1,NA3,nc3,n1,f',HSF.out,hin4,qo,qo,HRN.out,by simp;omega,HXF.out,HBF.out⟩
       ·have hdf:decide (pk Ts a1=[59])=false:=by simp [h59]
        rw [hdf] at HXP3
        have HXP4:=qh (CL 61 #[.pointer (some ⟨B,0,none⟩),.string ⟨#[59]⟩] u3 (Zyd B (w.heap.size+1) (some ⟨g,0,none⟩) tc Ts AA ac as_ (List.range (w.heap.size+1)) a1 NA3 nc3 n1 false u3)) HXP3.out
        have hRR:R=.error (of_ Ts a1):=by
         have:=HRA.out
         rw [Ztf HKD.out h61 hr h59] at this
         injection this with this
         exact this.symm
        have HF:=qh (parF src=(([],[]),of_ Ts a1)) (by rw [HPF.out];exact Zkn (by rw [HR.out,hRR]))
        obtain ⟨o,hoe,ho⟩:∃ o,of_ Ts a1=o/\0<=o:=⟨_,rfl,HK.out.off a1⟩
        rw [hoe] at HF
        clear hRR HRA hr h61 h59 hdf HXP3
        have HOE:=hdQ hoe
        clear hoe
        go_wp2_with fail
        refine HXP4.out.mono ?_
        rintro e u4 ⟨rfl,hO4,_,hs4⟩
        obtain ⟨b0,b1,b2,b3,hw4⟩:=hs4 rfl
        rw [HOE.out] at hw4
        have HW4:=hdQ hw4
        have HX4:=hdQ (hO4.own HX3.out qo (by simp;exact HPB.out))
        have HB4:=hdQ (Zcv HB3.out hO4 (λy hy=>by simp at hy;omega))
        clear hw4 hs4 hO4 g4'
        have zB:=HW4.out.lt
        have zP:=HX4.out.lt
        have g4:=HW4.out.cell 4
        have y0:=HX4.out.cell 0
        have y1:=HX4.out.cell 1
        have yf:=HX4.out.frozen
        (try dsimp only [List.getElem?_cons_succ,List.getElem?_cons_zero] at g4 y0 y1)
        have hPB:¬ w.heap.size=B:=qo
        have hBP:¬ B=w.heap.size:=qo
        go_wp2_with fail
        go_region_held3 (λw'=>w'.cell? ⟨B,4,none⟩=some (.int .i64 (o)))
         (first|((try dsimp only);(go_simp;done))|go_keep)
         (fail)
        all_goals
         go_wp2_with fail
         exact bodyPost_ret (v:=.tuple #[.agg #[.slice none 0 0,.slice none 0 0],.int .i64 (o)]) (by simp [results,Tryz.results21,go_sem, *]) rfl (Zbo.mk_ HF.out rfl rfl (Zcb.nil _ _) bll)
     ·have hdf:decide (pk Ts (a+1)=[61])=false:=by simp [h61]
      rw [hdf] at HXP
      have HXP1:Hid (CL 61 #[.pointer (some ⟨B,0,none⟩),.string ⟨#[61]⟩] (u1.setCell ⟨B,1,none⟩ (.int .i64 ((a:Int)+1))) (Zyd B (w.heap.size+1) (some ⟨g,0,none⟩) tc Ts AA ac as_ (List.range (w.heap.size+1)) (a+1) NA nc ns false (u1.setCell ⟨B,1,none⟩ (.int .i64 ((a:Int)+1))))):=hdQ HXP.out
      have hRR:R=.error (of_ Ts (a+1)):=by
       have:=HRA.out
       rw [asg_eq HKD.out h61] at this
       injection this with this
       exact this.symm
      have HF:=qh (parF src=(([],[]),of_ Ts (a+1))) (by rw [HPF.out];exact Zkn (by rw [HR.out,hRR]))
      obtain ⟨o,hoe,ho⟩:∃ o,of_ Ts (a+1)=o/\0<=o:=⟨_,rfl,HK.out.off (a+1)⟩
      rw [hoe] at HF
      clear hRR HRA h61 hdf HXP
      have HOE:=hdQ hoe
      clear hoe
      go_wp2_with fail
      refine HXP1.out.mono ?_
      rintro e u2 ⟨rfl,hO2,_,hs2⟩
      obtain ⟨b0,b1,b2,b3,hw2⟩:=hs2 rfl
      rw [HOE.out] at hw2
      have hO12:Only u1.heap.size [B] u1 u2:=HOA.out.sub hO2 qs (λy hy=>.inl hy)
      have HW2:=hdQ hw2
      have HX2:=hdQ (hO12.own HX1'.out qo (by simp;exact HPB.out))
      have HB2:=hdQ (Zcv HB1'.out hO12 (λy hy=>by simp at hy;omega))
      clear hO2 hs2 hO12 hw2 x0 x1 x2 x3 d1 d4 df
      have zB:=HW2.out.lt
      have zP:=HX2.out.lt
      have g4:=HW2.out.cell 4
      have y0:=HX2.out.cell 0
      have y1:=HX2.out.cell 1
      have yf:=HX2.out.frozen
      (try dsimp only [List.getElem?_cons_succ,List.getElem?_cons_zero] at g4 y0 y1)
      have hPB:¬ w.heap.size=B:=qo
      have hBP:¬ B=w.heap.size:=qo
      go_wp2_with fail
      go_region_held3 (λw'=>w'.cell? ⟨B,4,none⟩=some (.int .i64 (o)))
       (first|((try dsimp only);(go_simp;done))|go_keep)
       (fail)
      all_goals
       go_wp2_with fail
       exact bodyPost_ret (v:=.tuple #[.agg #[.slice none 0 0,.slice none 0 0],.int .i64 (o)]) (by simp [results,Tryz.results21,go_sem, *]) rfl (Zbo.mk_ HF.out rfl rfl (Zcb.nil _ _) bll)
    ·have e2:(k != 2)=true:=by simpa using k2
     have e22:(k==2)=false:=by simpa using k2
     have hRR:R=.error q:=by
      have:=HRA.out
      rw [Zth (by rw [HKD.out];exact HK0.out) (by rw [HKD.out];exact k2),HQE.out] at this
      injection this with this
      exact this.symm
     have HF:=qh (parF src=(([],[]),q)) (by rw [HPF.out];exact Zkn (by rw [HR.out,hRR]))
     clear hRR HRA k2
     go_wp2_with fail
     refine HFL.out.mono ?_
     rintro e u2 ⟨rfl,rfl⟩
     have HW2:=qh (Own (u1.setCell ⟨B,4,none⟩ (.int .i64 q)).drew B 99 [_,_,_,_,.int .i64 q]) (HS1.out.setBad q).1.drew
     have HX2:=qh (Own (u1.setCell ⟨B,4,none⟩ (.int .i64 q)).drew w.heap.size 62 [.slice none 0 0,.slice none 0 0]) (Own.drew (HX1'.out.far (by simp;exact HPB.out) _))
     have HB2:=qh (Bw w (u1.setCell ⟨B,4,none⟩ (.int .i64 q)).drew) (Below.drew (Below.setCell HB1'.out (by simp;omega) _))
     generalize (u1.setCell ⟨B,4,none⟩ (.int .i64 q)).drew=u2 at *
     clear x0 x1 x2 x3
     have zB:=HW2.out.lt
     have zP:=HX2.out.lt
     have g4:=HW2.out.cell 4
     have y0:=HX2.out.cell 0
     have y1:=HX2.out.cell 1
     have yf:=HX2.out.frozen
     (try dsimp only [List.getElem?_cons_succ,List.getElem?_cons_zero] at g4 y0 y1)
     have hPB:¬ w.heap.size=B:=qo
     have hBP:¬ B=w.heap.size:=qo
     go_wp2_with fail
     go_region_held3 (λw'=>w'.cell? ⟨B,4,none⟩=some (.int .i64 (q)))
      (first|((try dsimp only);(go_simp;done))|go_keep)
      (fail)
     all_goals
      go_wp2_with fail
      exact bodyPost_ret (v:=.tuple #[.agg #[.slice none 0 0,.slice none 0 0],.int .i64 (q)]) (by simp [results,Tryz.results21,go_sem, *]) rfl (Zbo.mk_ HF.out rfl rfl (Zcb.nil _ _) bll)
theorem T.tokKind (k n o:Int) (x:List UInt8) (w:World):(Instr.field 101 (.agg #[.int .i64 k,str x,.int .i64 n,.int .i64 o]) 0).run Tryz.prog w=.ok (.int .i64 k) w:=kr
def AInv (B base:Nat) (TA:OA) (tc:Nat) (Ts:List Zam) (X:List Nat) (R:Except Int Zag) (w:World) (k:Nat) (wr:World):Prop :=
 ∃ (AA:OA) (ac:Nat) (as_:List Zab) (a:Nat) (NA:OA) (nc:Nat) (ns:List Zac) (f:Nat),Zbh wr B base TA tc Ts AA ac as_ X a 0 NA nc ns/\a<Ts.length/\f<=k/\Ts.length-a<f/\asg Ts (Zc1 Ts) f a ns as_=some R/\as_.length<=a/\Only w.heap.size [B] w wr/\(∀ x,x∈gOf NA->w.heap.size<=x)/\(∀ x,x∈gOf AA->w.heap.size<=x)
def AOut (B base:Nat) (TA:OA) (tc:Nat) (Ts:List Zam) (X:List Nat) (R:Except Int Zag) (w:World) (e:Ending) (w':World):Prop :=
 Only w.heap.size [B] w w'/\(match R with
 | .ok p=>∃ (AA:OA) (ac a:Nat) (NA:OA) (nc:Nat),e=.returned (.tuple #[])/\Zbh w' B base TA tc Ts AA ac p.2 X a 0 NA nc p.1/\p.2.length<=Ts.length
 | .error o=>e=.panicked (rej o)/\Zvx w' B)
set_option maxHeartbeats 4000000 in
theorem Zog {B base:Nat} {TA:OA} {tc:Nat} {Ts:List Zam} {X:List Nat} {R:Except Int Zag} (hk:TokK Ts) (hl2:Ts.length<=2001) (w:World)
  (h:Zbh w B base TA tc Ts none 0 [] X 0 0 none 0 []) (hR:asg Ts (Zc1 Ts) (Ts.length+1) 0 [] []=some R) :
  CL 136 #[.pointer (some ⟨B,0,none⟩)] w (AOut B base TA tc Ts X R w):=by
 have hlen:=hk.len
 have hfd:=T.tokKind
 have HIV:=qh (AInv B base TA tc Ts X R w (Ts.length+1) w) ⟨none,0,[],0,none,0,[],Ts.length+1,h,hk.ok.pos,Nat.le_refl _,qo,hR,qs,Only.refl _ _ _,λx hx=>by simp [gOf] at hx,λx hx=>by simp [gOf] at hx⟩
 clear h hR
 go_enter Tryz.func136,Tryz.ntmps136
 go_wp2_with fail
 go_loopg [2,3] (Ts.length+1) (λgg _ _ wr=>AInv B base TA tc Ts X R w gg wr)
 case atStart=>exact HIV.out
 case round =>
  obtain ⟨AA,ac,as_,a,NA,nc,ns,f,hst,ha,hf1,hf2,hR,hal,hO,hNB,hAB⟩:=hrel
  obtain ⟨wo,rfl⟩:=qe wr
  obtain ⟨f',rfl⟩:∃ f',f=f'+1:=⟨f-1,qo⟩
  have HS:=hdQ hst
  have HO:=hdQ hO
  have HNB:=hdQ hNB
  have HAB:=hdQ hAB
  have hOz:=hO.size
  have HN:=qh (CR 192 #[.pointer (some ⟨B,0,none⟩)] wo (.agg #[.int .i64 (kd Ts a),str (tx Ts a),.int .i64 (nm Ts a),.int .i64 (of_ Ts a)])) (Zoe wo hst ha)
  clear HIV hst hO hNB hAB
  by_cases hk0:kd Ts a=0
  ·have hRR:R=.ok (ns,as_):=by
    rw [Zxw hk0] at hR
    injection hR with hR
    exact hR.symm
   subst hRR
   rw [hk0] at HN
   clear hR
   generalize tx Ts a=xx at *
   generalize nm Ts a=nn at *
   generalize of_ Ts a=oo at *
   go_wp2_with fail
   (with_reducible refine HN.out.mono ?_)
   rintro e u0 ⟨rfl,hb0⟩
   have HB0:=hdQ hb0
   clear hb0
   go_wp2_with fail
   refine bodyPost_end (results_none rfl _ _ _) rfl ⟨HO.out.sub (Only.of_below HB0.out []) hOz (λx hx=>by cases hx),AA,ac,a,NA,nc,rfl,HS.out.step HB0.out,by show as_.length<=_;omega⟩
  ·have hin:=Zjn hk.ok ha hk0
   have e0:(kd Ts a==0)=false:=beq_eq_false_iff_ne.2 hk0
   have HNX:=qh (∀ wx,Bw wo wx->CL 193 #[.pointer (some ⟨B,0,none⟩)] wx λe w'=>e=.returned (.agg #[.int .i64 (kd Ts a),str (tx Ts a),.int .i64 (nm Ts a),.int .i64 (of_ Ts a)])/\Zbh w' B base TA tc Ts AA ac as_ X (a+1) 0 NA nc ns/\Only wx.heap.size [B] wx w') (λwx hb=>Zqk wx (HS.out.step hb) ha hlen hk0)
   by_cases hk2:kd Ts a=2
   ·by_cases h61:pk Ts (a+1)=[61]
    ·have hin2:=Zdg hk.ok hin (by rw [h61];simp)
     have hE:=Zbq hk.ok (Zc1 Ts) (.bin true) 1 (a+2) ns hin2 (by unfold Zc1;show 3+_<=_;omega)
     have HND:=qh (∀ wx,Zbh wx B base TA tc Ts AA ac as_ X (a+1) 0 NA nc ns->CL 195 #[.pointer (some ⟨B,0,none⟩),.string ⟨#[61]⟩] wx (Zsd B base TA tc Ts AA ac as_ X (a+1) 0 NA nc ns true wx)) (λwx q=>by have:=Zjk [61] wx q hin hlen qs;rw [show decide (pk Ts (a+1)=[61])=true by simp [h61]] at this;exact this)
     have HEX:=qh (∀ wx,Zbh wx B base TA tc Ts AA ac as_ X (a+2) 0 NA nc ns->CL 196 #[.pointer (some ⟨B,0,none⟩)] wx (IGo B base TA tc Ts AA ac as_ X 0 NA (prs Ts (Zc1 Ts) (.bin true) 1 (a+2) ns) wx)) (λwx q=>(I_prs hk (Zc1 Ts)).bin true 0 (a+2) X NA nc ns wx q hin2 qo (by unfold Zc1;show 3+_<=_;omega))
     cases hr:prs Ts (Zc1 Ts) (.bin true) 1 (a+2) ns with
     | out=>exact absurd hr hE.1
     | bad o =>
      have hRR:R=.error o:=by
       rw [Zxy hk2 h61 hr] at hR
       injection hR with hR
       exact hR.symm
      subst hRR
      rw [hr] at HEX
      rw [hk2] at HN HNX
      clear hR hr hE h61 hk0 hk2 e0
      generalize tx Ts a=xx at *
      generalize nm Ts a=nn at *
      generalize of_ Ts a=oo at *
      go_wp2_with fail
      (with_reducible refine HN.out.mono ?_)
      rintro e u0 ⟨rfl,hb0⟩
      have HB0:=hdQ hb0
      clear hb0
      go_wp2_with fail
      (with_reducible refine (HNX.out _ HB0.out).mono ?_)
      rintro e u1 ⟨rfl,hs1,hO1⟩
      have HS1:=hdQ (hs1.alloc (.cells #[.int .i64 2,str xx,.int .i64 nn,.int .i64 oo] 101))
      have HTB1:=qh (Own (u1.alloc (.cells #[.int .i64 2,str xx,.int .i64 nn,.int .i64 oo] 101)) u1.heap.size 101 [.int .i64 2,str xx,.int .i64 nn,.int .i64 oo]) (Own.new u1 101 #[_,_,_,_])
      have hO1':Only w.heap.size [B] w u1:=(HO.out.sub (Only.of_below HB0.out []) hOz (λx hx=>by cases hx)).sub hO1 (Nat.le_trans hOz HB0.out.size) (λx hx=>.inl hx)
      have HO1:=qh (Only w.heap.size [B] w (u1.alloc (.cells #[.int .i64 2,str xx,.int .i64 nn,.int .i64 oo] 101))) (hO1'.al hO1'.size _)
      have hz1:=hO1'.size
      have htb:¬ u1.heap.size=B:=by have:=hs1.1.lt;omega
      have htb2:¬ B=u1.heap.size:=λq=>htb q.symm
      have HTN:=qh (u1.heap.size∉gOf NA/\u1.heap.size∉gOf AA) (by
       obtain ⟨cs,hg,_,_⟩:=hs1.2.nod
       exact ⟨λq=>by have:=hg.lt _ q;omega,λq=>by have:=hs1.2.ass.lt _ q;omega⟩)
      clear hs1 hO1 hO1'
      go_wp2_with fail
      (with_reducible refine (HND.out _ HS1.out).mono ?_)
      rintro e u2 ⟨hO2,rfl,hs2⟩
      have HS2:=qh (Zbh u2 B base TA tc Ts AA ac as_ X (a+2) 0 NA nc ns) hs2
      have HTB2:=hdQ (hO2.own HTB1.out HTB1.out.lt (by simpa using htb))
      have HO2:=qh (Only w.heap.size [B] w u2) (HO1.out.sub hO2 HO1.out.size (λx hx=>.inl hx))
      clear hs2 hO2
      go_wp2_with fail
      (with_reducible refine (HEX.out _ HS2.out).mono ?_)
      rintro e u3 ⟨rfl,q1,q2⟩
      have Q1:=hdQ q1
      have Q2:=qh (Only w.heap.size [B] w u3) (HO2.out.sub q2 HO2.out.size (λx hx=>by
       rcases List.mem_cons.1 hx with rfl|hx
       ·exact .inl qs
       ·exact .inr (HNB.out x hx)))
      clear q1 q2
      go_wp2_with fail
      exact ⟨rfl,Q2.out,rfl,Q1.out⟩
     | ok v a1 n1 =>
      rw [hr] at HEX
      have h6:a+2+1<=a1/\a1<Ts.length:=hE.2 v a1 n1 hr
      by_cases h59:pk Ts a1=[59]
      ·have hin4:=Zdg hk.ok h6.2 (by rw [h59];simp)
       rw [Ztg hk2 h61 hr h59] at hR
       have HRN:=hdQ hR
       have HND2:=qh (∀ wx NA' nc',Zbh wx B base TA tc Ts AA ac as_ X a1 0 NA' nc' n1->CL 195 #[.pointer (some ⟨B,0,none⟩),.string ⟨#[59]⟩] wx (Zsd B base TA tc Ts AA ac as_ X a1 0 NA' nc' n1 true wx)) (λwx NA' nc' q=>by have:=Zjk [59] wx q h6.2 hlen qs;rw [show decide (pk Ts a1=[59])=true by simp [h59]] at this;exact this)
       rw [hk2] at HN HNX
       clear hR hr hE h61 hk0 hk2 e0 h59
       generalize tx Ts a=xx at *
       generalize nm Ts a=nn at *
       generalize of_ Ts a=oo at *
       go_wp2_with fail
       (with_reducible refine HN.out.mono ?_)
       rintro e u0 ⟨rfl,hb0⟩
       have HB0:=hdQ hb0
       clear hb0
       go_wp2_with fail
       (with_reducible refine (HNX.out _ HB0.out).mono ?_)
       rintro e u1 ⟨rfl,hs1,hO1⟩
       have HS1:=hdQ (hs1.alloc (.cells #[.int .i64 2,str xx,.int .i64 nn,.int .i64 oo] 101))
       have HTB1:=qh (Own (u1.alloc (.cells #[.int .i64 2,str xx,.int .i64 nn,.int .i64 oo] 101)) u1.heap.size 101 [.int .i64 2,str xx,.int .i64 nn,.int .i64 oo]) (Own.new u1 101 #[_,_,_,_])
       have hO1':Only w.heap.size [B] w u1:=(HO.out.sub (Only.of_below HB0.out []) hOz (λx hx=>by cases hx)).sub hO1 (Nat.le_trans hOz HB0.out.size) (λx hx=>.inl hx)
       have HO1:=qh (Only w.heap.size [B] w (u1.alloc (.cells #[.int .i64 2,str xx,.int .i64 nn,.int .i64 oo] 101))) (hO1'.al hO1'.size _)
       have hz1:=hO1'.size
       have htb:¬ u1.heap.size=B:=by have:=hs1.1.lt;omega
       have htb2:¬ B=u1.heap.size:=λq=>htb q.symm
       have HTN:=qh (u1.heap.size∉gOf NA/\u1.heap.size∉gOf AA) (by
        obtain ⟨cs,hg,_,_⟩:=hs1.2.nod
        exact ⟨λq=>by have:=hg.lt _ q;omega,λq=>by have:=hs1.2.ass.lt _ q;omega⟩)
       clear hs1 hO1 hO1'
       go_wp2_with fail
       (with_reducible refine (HND.out _ HS1.out).mono ?_)
       rintro e u2 ⟨hO2,rfl,hs2⟩
       have HS2:=qh (Zbh u2 B base TA tc Ts AA ac as_ X (a+2) 0 NA nc ns) hs2
       have HTB2:=hdQ (hO2.own HTB1.out HTB1.out.lt (by simpa using htb))
       have HO2:=qh (Only w.heap.size [B] w u2) (HO1.out.sub hO2 HO1.out.size (λx hx=>.inl hx))
       clear hs2 hO2
       go_wp2_with fail
       (with_reducible refine (HEX.out _ HS2.out).mono ?_)
       rintro e u3 ⟨NA3,nc3,rfl,hs3,hO3,hS3⟩
       have HS3:=qh (Zbh u3 B base TA tc Ts AA ac as_ X a1 0 NA3 nc3 n1) hs3
       have HTB3:=hdQ (hO3.own HTB2.out HTB2.out.lt (by simp only [List.mem_cons,not_or];exact ⟨htb,HTN.out.1⟩))
       have HO3:=qh (Only w.heap.size [B] w u3) (HO2.out.sub hO3 HO2.out.size (λx hx=>by
        rcases List.mem_cons.1 hx with rfl|hx
        ·exact .inl qs
        ·exact .inr (HNB.out x hx)))
       have HNB3:=qh (∀ x,x∈gOf NA3->w.heap.size<=x) (λx hx=>by
        rcases hS3 x hx with q|q
        ·exact HNB.out x q
        ·exact Nat.le_trans HO2.out.size q)
       clear hs3 hO3 hS3
       go_wp2_with fail
       (with_reducible refine (HND2.out _ _ _ HS3.out).mono ?_)
       rintro e u4 ⟨hO4,rfl,hs4⟩
       have HS4:=qh (Zbh u4 B base TA tc Ts AA ac as_ X (a1+1) 0 NA3 nc3 n1) hs4
       have HTB4:=hdQ (hO4.own HTB3.out HTB3.out.lt (by simpa using htb))
       have HO4:=qh (Only w.heap.size [B] w u4) (HO3.out.sub hO4 HO3.out.size (λx hx=>.inl hx))
       clear hs4 hO4
       obtain ⟨zB,_,_,_,_,d4,df⟩:=HS4.out.cells
       have tz4:=HTB4.out.lt
       have x1:=HTB4.out.cell 1
       (try dsimp only [List.getElem?_cons_succ,List.getElem?_cons_zero] at x1)
       have hasl:as_.length<=2001:=qo
       have hlow:=HS4.out.2.low
       have HGA:=hdQ HS4.out.2.ass
       go_wp2_with fail
       refine Zbc (S:=(λw'=>w'.cell? ⟨B,4,none⟩=some (.slice AA as_.length ac)/\w'.frozen? ⟨B,4,none⟩=false/\w'.cell? ⟨u1.heap.size,1,none⟩=some (str xx))) 15 kr (by (try dsimp only);refine ⟨?_, ?_, ?_⟩<;>(go_simp;done)) (λhHeld=>?_)
       refine tkM 0 ?_
       refine tkM 1 ?_
       refine tkM 2 ?_
       refine tkM 3 ?_
       refine tkM 4 ?_
       refine tkM 5 ?_
       refine tkM 6 ?_
       refine tkM 7 ?_
       refine tkM 8 ?_
       refine tkM 9 ?_
       refine Zaa (i:=10) rfl kr (λK10 hK10=>?_)
       go_simp
       refine hK10.out _ _ (λ_=>by (try dsimp only);refine ⟨?_, ?_, ?_⟩<;>(go_simp;done)) (λhHeld10=>?_)
       have hX10:=hHeld10 qd
       refine Zaa (i:=11) rfl kr (λK11 hK11=>?_)
       (refine Zcs qr _ _ 60 qr (base) 106 (.agg #[.string ByteArray.empty,.int .i64 0]) 2 24 Tryz.underlying60 T.infoAss rfl qd (xs:=Zjb as_) qr ?_ (ys:=Zjb [(xx,v)]) qr ?_ (Znq _) ?_ ?_ ?_ ?_;(exact (gwx HGA.out));(exact (ltt 1));(unfold maxLen;omega);(omega);(first|omega|(simp<;>omega));rintro A' c' w2 gA)
       have hsa:=gA.2.2.2.1
       (try simp at hsa)
       have hem:=PMem.assign HS4.out.2 bll gA
       have hAA:=HS4.out.2.ass.lt
       have hAX:=HS4.out.2.apA
       have ho2:Own w2 B 174 [.slice TA Ts.length tc,.int .i64 ((a1+1:Nat):Int),.int .i64 0,.slice NA3 n1.length nc3,.slice AA as_.length ac]:=hem.2.1.own HS4.out.1 zB (λhN=>(hAX B hN).1 rfl)
       have ht2':=hem.2.1.own HTB4.out tz4 HTN.out.2
       have hb2:Only w.heap.size [B] w w2:=HO4.out.sub hem.2.1 HO4.out.size (λy hy=>.inr (HAB.out y hy))
       have HAB2:=qh (∀ x,x∈gOf A'->w.heap.size<=x) (λx hx=>by
        rcases hem.2.2 x hx with r|r
        ·exact HAB.out x r
        ·exact Nat.le_trans HO4.out.size r)
       have HO2':=hdQ ho2
       have HB5:=hdQ hb2
       have HE2:=hdQ hem.1
       have k3:=ho2.cell 4
       have kf:=ho2.frozen 4
       have kx:=ht2'.cell 1
       have kB:=ho2.lt
       have ktz:=ht2'.lt
       (try dsimp only [List.getElem?_cons_succ,List.getElem?_cons_zero] at k3 kx)
       clear gA hem ho2 hb2 ht2' hAA hAX
       refine hK11.out _ _ (λ_=>by (try dsimp only);refine ⟨?_, ?_, ?_⟩<;>(go_simp;done)) (λhHeld11=>?_)
       have hX11:=hHeld11 qd
       refine Zaa (i:=12) rfl kr (λK12 hK12=>?_)
       go_simp
       refine hK12.out _ _ (λ_=>hX11) (λhHeld12=>?_)
       have hX12:=hHeld12 qd
       refine Zaa (i:=13) rfl kr (λK13 hK13=>?_)
       go_simp
       refine hK13.out _ _ (λ_=>hX12) (λhHeld13=>?_)
       have hX13:=hHeld13 qd
       refine Zaa (i:=14) rfl kr (λK14 hK14=>?_)
       go_simp
       refine hK14.out _ _ (λ_=>hX13) (λhHeld14=>?_)
       have hX14:=hHeld14 qd
       refine Zaa (i:=15) rfl kr (λK15 hK15=>?_)
       go_simp
       refine hK15.out _ _ (λh=>absurd rfl h) (λhHeld15=>?_)
       refine Zbd kr ?_ _
       have hst:Zbh (w2.setCell ⟨B,4,none⟩ (.slice A' (as_.length+1) c')) B base TA tc Ts A' c' (as_++[(xx,v)]) X (a1+1) 0 NA3 nc3 n1:=⟨by have:=HO2'.out.set_ 4 (.slice A' (as_.length+1) c');simpa using this,HE2.out.set_ 4 _⟩
       have HSF:=hdQ hst
       have HBF:=qh (Only w.heap.size [B] w (w2.setCell ⟨B,4,none⟩ (.slice A' (as_.length+1) c'))) (Only.setCell HB5.out qs _)
       generalize w2.setCell ⟨B,4,none⟩ (.slice A' (as_.length+1) c')=w3 at *
       clear hst hX10 hX11 hX12 hX13 hX14 hHeld k3 kf kx
       go_wp2_with fail
       go_roundg (gk-1)
       case measure=>omega
       case rel=>exact ⟨A',c',as_++[(xx,v)],a1+1,NA3,nc3,n1,f',HSF.out,hin4,qo,qo,HRN.out,by simp;omega,HBF.out,HNB3.out,HAB2.out⟩
      ·have hRR:R=.error (of_ Ts a1):=by
        rw [Ztf hk2 h61 hr h59] at hR
        injection hR with hR
        exact hR.symm
       have HND2:=qh (∀ wx NA' nc',Zbh wx B base TA tc Ts AA ac as_ X a1 0 NA' nc' n1->CL 195 #[.pointer (some ⟨B,0,none⟩),.string ⟨#[59]⟩] wx (Zsd B base TA tc Ts AA ac as_ X a1 0 NA' nc' n1 false wx)) (λwx NA' nc' q=>by have:=Zjk [59] wx q h6.2 hlen qs;rw [show decide (pk Ts a1=[59])=false by simp [h59]] at this;exact this)
       have HRR:=hdQ hRR
       rw [hk2] at HN HNX
       clear hR hr hE h61 hk0 hk2 e0 h59 hRR
       generalize tx Ts a=xx at *
       generalize nm Ts a=nn at *
       generalize of_ Ts a=oo at *
       go_wp2_with fail
       (with_reducible refine HN.out.mono ?_)
       rintro e u0 ⟨rfl,hb0⟩
       have HB0:=hdQ hb0
       clear hb0
       go_wp2_with fail
       (with_reducible refine (HNX.out _ HB0.out).mono ?_)
       rintro e u1 ⟨rfl,hs1,hO1⟩
       have HS1:=hdQ (hs1.alloc (.cells #[.int .i64 2,str xx,.int .i64 nn,.int .i64 oo] 101))
       have HTB1:=qh (Own (u1.alloc (.cells #[.int .i64 2,str xx,.int .i64 nn,.int .i64 oo] 101)) u1.heap.size 101 [.int .i64 2,str xx,.int .i64 nn,.int .i64 oo]) (Own.new u1 101 #[_,_,_,_])
       have hO1':Only w.heap.size [B] w u1:=(HO.out.sub (Only.of_below HB0.out []) hOz (λx hx=>by cases hx)).sub hO1 (Nat.le_trans hOz HB0.out.size) (λx hx=>.inl hx)
       have HO1:=qh (Only w.heap.size [B] w (u1.alloc (.cells #[.int .i64 2,str xx,.int .i64 nn,.int .i64 oo] 101))) (hO1'.al hO1'.size _)
       have hz1:=hO1'.size
       have htb:¬ u1.heap.size=B:=by have:=hs1.1.lt;omega
       have htb2:¬ B=u1.heap.size:=λq=>htb q.symm
       have HTN:=qh (u1.heap.size∉gOf NA/\u1.heap.size∉gOf AA) (by
        obtain ⟨cs,hg,_,_⟩:=hs1.2.nod
        exact ⟨λq=>by have:=hg.lt _ q;omega,λq=>by have:=hs1.2.ass.lt _ q;omega⟩)
       clear hs1 hO1 hO1'
       go_wp2_with fail
       (with_reducible refine (HND.out _ HS1.out).mono ?_)
       rintro e u2 ⟨hO2,rfl,hs2⟩
       have HS2:=qh (Zbh u2 B base TA tc Ts AA ac as_ X (a+2) 0 NA nc ns) hs2
       have HTB2:=hdQ (hO2.own HTB1.out HTB1.out.lt (by simpa using htb))
       have HO2:=qh (Only w.heap.size [B] w u2) (HO1.out.sub hO2 HO1.out.size (λx hx=>.inl hx))
       clear hs2 hO2
       go_wp2_with fail
       (with_reducible refine (HEX.out _ HS2.out).mono ?_)
       rintro e u3 ⟨NA3,nc3,rfl,hs3,hO3,hS3⟩
       have HS3:=qh (Zbh u3 B base TA tc Ts AA ac as_ X a1 0 NA3 nc3 n1) hs3
       have HTB3:=hdQ (hO3.own HTB2.out HTB2.out.lt (by simp only [List.mem_cons,not_or];exact ⟨htb,HTN.out.1⟩))
       have HO3:=qh (Only w.heap.size [B] w u3) (HO2.out.sub hO3 HO2.out.size (λx hx=>by
        rcases List.mem_cons.1 hx with rfl|hx
        ·exact .inl qs
        ·exact .inr (HNB.out x hx)))
       have HNB3:=qh (∀ x,x∈gOf NA3->w.heap.size<=x) (λx hx=>by
        rcases hS3 x hx with q|q
        ·exact HNB.out x q
        ·exact Nat.le_trans HO2.out.size q)
       clear hs3 hO3 hS3
       go_wp2_with fail
       (with_reducible refine (HND2.out _ _ _ HS3.out).mono ?_)
       rintro e u4 ⟨hO4,rfl,hd4⟩
       have HD:=hdQ hd4
       have HO4:=qh (Only w.heap.size [B] w u4) (HO3.out.sub hO4 HO3.out.size (λx hx=>.inl hx))
       clear hd4 hO4
       go_wp2_with fail
       rw [HRR.out]
       exact ⟨rfl,HO4.out,rfl,HD.out⟩
    ·have hRR:R=.error (of_ Ts (a+1)):=by
      rw [asg_eq hk2 h61] at hR
      injection hR with hR
      exact hR.symm
     have HRR:=hdQ hRR
     have HND:=qh (∀ wx,Zbh wx B base TA tc Ts AA ac as_ X (a+1) 0 NA nc ns->CL 195 #[.pointer (some ⟨B,0,none⟩),.string ⟨#[61]⟩] wx (Zsd B base TA tc Ts AA ac as_ X (a+1) 0 NA nc ns false wx)) (λwx q=>by have:=Zjk [61] wx q hin hlen qs;rw [show decide (pk Ts (a+1)=[61])=false by simp [h61]] at this;exact this)
     rw [hk2] at HN HNX
     clear hR h61 hk0 hk2 e0 hRR
     generalize tx Ts a=xx at *
     generalize nm Ts a=nn at *
     generalize of_ Ts a=oo at *
     go_wp2_with fail
     (with_reducible refine HN.out.mono ?_)
     rintro e u0 ⟨rfl,hb0⟩
     have HB0:=hdQ hb0
     clear hb0
     go_wp2_with fail
     (with_reducible refine (HNX.out _ HB0.out).mono ?_)
     rintro e u1 ⟨rfl,hs1,hO1⟩
     have HS1:=hdQ (hs1.alloc (.cells #[.int .i64 2,str xx,.int .i64 nn,.int .i64 oo] 101))
     have HTB1:=qh (Own (u1.alloc (.cells #[.int .i64 2,str xx,.int .i64 nn,.int .i64 oo] 101)) u1.heap.size 101 [.int .i64 2,str xx,.int .i64 nn,.int .i64 oo]) (Own.new u1 101 #[_,_,_,_])
     have hO1':Only w.heap.size [B] w u1:=(HO.out.sub (Only.of_below HB0.out []) hOz (λx hx=>by cases hx)).sub hO1 (Nat.le_trans hOz HB0.out.size) (λx hx=>.inl hx)
     have HO1:=qh (Only w.heap.size [B] w (u1.alloc (.cells #[.int .i64 2,str xx,.int .i64 nn,.int .i64 oo] 101))) (hO1'.al hO1'.size _)
     have hz1:=hO1'.size
     have htb:¬ u1.heap.size=B:=by have:=hs1.1.lt;omega
     have htb2:¬ B=u1.heap.size:=λq=>htb q.symm
     have HTN:=qh (u1.heap.size∉gOf NA/\u1.heap.size∉gOf AA) (by
      obtain ⟨cs,hg,_,_⟩:=hs1.2.nod
      exact ⟨λq=>by have:=hg.lt _ q;omega,λq=>by have:=hs1.2.ass.lt _ q;omega⟩)
     clear hs1 hO1 hO1'
     go_wp2_with fail
     (with_reducible refine (HND.out _ HS1.out).mono ?_)
     rintro e u2 ⟨hO2,rfl,hd2⟩
     have HD:=hdQ hd2
     have HO2:=qh (Only w.heap.size [B] w u2) (HO1.out.sub hO2 HO1.out.size (λx hx=>.inl hx))
     clear hd2 hO2
     go_wp2_with fail
     rw [HRR.out]
     exact ⟨rfl,HO2.out,rfl,HD.out⟩
   ·have hRR:R=.error (of_ Ts a):=by
     rw [Zth hk0 hk2] at hR
     injection hR with hR
     exact hR.symm
    subst hRR
    have e2:(kd Ts a==2)=false:=beq_eq_false_iff_ne.2 hk2
    have e2':(kd Ts a != 2)=true:=by simpa using hk2
    have HRJ:=qh (∀ wx,CL 194 #[.pointer (some ⟨B,0,none⟩),.agg #[.int .i64 (kd Ts a),str (tx Ts a),.int .i64 (nm Ts a),.int .i64 (of_ Ts a)]] wx λe w'=>e=.panicked (rej (of_ Ts a))/\Bw wx w') (λwx=>Ze8 _ _ _ _ _ wx)
    clear hR hk0 hk2
    generalize kd Ts a=kk at *
    generalize tx Ts a=xx at *
    generalize nm Ts a=nn at *
    generalize of_ Ts a=oo at *
    go_wp2_with fail
    (with_reducible refine HN.out.mono ?_)
    rintro e u0 ⟨rfl,hb0⟩
    have HB0:=hdQ hb0
    clear hb0
    go_wp2_with fail
    (with_reducible refine (HNX.out _ HB0.out).mono ?_)
    rintro e u1 ⟨rfl,hs1,hO1⟩
    have HS1:=hdQ (hs1.alloc (.cells #[.int .i64 kk,str xx,.int .i64 nn,.int .i64 oo] 101))
    have HTB1:=qh (Own (u1.alloc (.cells #[.int .i64 kk,str xx,.int .i64 nn,.int .i64 oo] 101)) u1.heap.size 101 [.int .i64 kk,str xx,.int .i64 nn,.int .i64 oo]) (Own.new u1 101 #[_,_,_,_])
    have hO1':Only w.heap.size [B] w u1:=(HO.out.sub (Only.of_below HB0.out []) hOz (λx hx=>by cases hx)).sub hO1 (Nat.le_trans hOz HB0.out.size) (λx hx=>.inl hx)
    have HO1:=qh (Only w.heap.size [B] w (u1.alloc (.cells #[.int .i64 kk,str xx,.int .i64 nn,.int .i64 oo] 101))) (hO1'.al hO1'.size _)
    have hz1:=hO1'.size
    have htb:¬ u1.heap.size=B:=by have:=hs1.1.lt;omega
    have htb2:¬ B=u1.heap.size:=λq=>htb q.symm
    have HTN:=qh (u1.heap.size∉gOf NA/\u1.heap.size∉gOf AA) (by
     obtain ⟨cs,hg,_,_⟩:=hs1.2.nod
     exact ⟨λq=>by have:=hg.lt _ q;omega,λq=>by have:=hs1.2.ass.lt _ q;omega⟩)
    clear hs1 hO1 hO1'
    go_wp2_with fail
    (with_reducible refine (HRJ.out _).mono ?_)
    rintro e u2 ⟨rfl,hb2⟩
    have HD:=hdQ ((HS1.out.ownD).step hb2)
    have HO2:=hdQ (HO1.out.sub (Only.of_below hb2 []) HO1.out.size (λx hx=>by cases hx))
    clear hb2
    go_wp2_with fail
    exact ⟨rfl,HO2.out,rfl,HD.out⟩
def Zvb (w:World) (g:Nat) (t:TypeId) (cs:List Value):Prop:=∃ m,cs.length<=m/\w.heap[g]? = some (.cells ⟨cs⟩ t (m,m+1))
theorem Zvb.lt {w:World} {g:Nat} {t:TypeId} {cs:List Value} (h:Zvb w g t cs):g<w.heap.size:=by
 obtain ⟨m,_,h⟩:=h
 exact (Array.getElem?_eq_some_iff.1 h).1
theorem Zvb.cell {w:World} {g:Nat} {t:TypeId} {cs:List Value} (h:Zvb w g t cs) (i:Nat):w.cell? ⟨g,i,none⟩=cs[i]? := by
 obtain ⟨m,_,h⟩:=h
 simp [World.cell?,h]
theorem Zvb.frozen {w:World} {g:Nat} {t:TypeId} {cs:List Value} (h:Zvb w g t cs) {i:Nat} (hi:i<cs.length):w.frozen? ⟨g,i,none⟩=false:=by
 obtain ⟨m,hm,h⟩:=h
 simp [World.frozen?,h];omega
theorem Zvb.set_ {w:World} {g:Nat} {t:TypeId} {cs:List Value} (h:Zvb w g t cs) (i:Nat) (u:Value):Zvb (w.setCell ⟨g,i,none⟩ u) g t (cs.set i u):=by
 obtain ⟨m,hm,h⟩:=h
 refine ⟨m,by simpa using hm, ?_⟩
 simp [World.setCell,Array.getElem?_modify,h]
theorem Zvb.step {w w':World} {g:Nat} {t:TypeId} {cs:List Value} (hb:Bw w w') (h:Zvb w g t cs):Zvb w' g t cs:=by
 have hl:=h.lt
 obtain ⟨m,hm,h⟩:=h
 exact ⟨m,hm,(hb.block g hl).trans h⟩
abbrev u8m (l:List UInt8):List Value:=l.map λb=>.int .u8 (b.toNat:Int)
theorem Zxs {P:Program} (src dst e:TypeId) (l:List UInt8) (hs:P.underlying src=some .string) (hd:P.underlying dst=some (.slice e)) (he:P.underlying e=some (.int .u8)) (w:World) :
  ∃ (cap:Nat) (w1:World) (pad:List Value),(convert src dst (.string ⟨l.toArray⟩)).run P w=.ok (.slice (some ⟨w.heap.size,0,none⟩) l.length cap) w1/\Zvb w1 w.heap.size e (u8m l++pad)/\Bw w w1/\w1.heap.size=w.heap.size+1/\l.length<=cap:=by
 refine ⟨_,_,List.replicate (grownCap w l.length 0 e-l.length) (.int .u8 0),run_bytes_of_string w src dst e ⟨l.toArray⟩ hs hd he,⟨(bytesRow ⟨l.toArray⟩ (grownCap w l.length 0 e)).size, ?_, ?_⟩, ?_, ?_, ?_⟩
 ·unfold bytesRow;simp [ByteArray.size]
 ·have:(w.drew.alloc (.cells (bytesRow ⟨l.toArray⟩ (grownCap w l.length 0 e)) e ((bytesRow ⟨l.toArray⟩ (grownCap w l.length 0 e)).size,(bytesRow ⟨l.toArray⟩ (grownCap w l.length 0 e)).size+1))).heap[w.heap.size]? = some (.cells (bytesRow ⟨l.toArray⟩ (grownCap w l.length 0 e)) e ((bytesRow ⟨l.toArray⟩ (grownCap w l.length 0 e)).size,(bytesRow ⟨l.toArray⟩ (grownCap w l.length 0 e)).size+1)):=heap_alloc_new w.drew _
  refine this.trans ?_
  have e1:bytesRow ⟨l.toArray⟩ (grownCap w l.length 0 e)=⟨u8m l++List.replicate (grownCap w l.length 0 e-l.length) (.int .u8 0)⟩:=by
   apply Array.ext'
   unfold bytesRow
   simp [ByteArray.size,u8m]
  rw [e1]
 ·exact ((Below.refl _ _).drew).alloc (Nat.le_refl _) _
 ·simp
 ·show l.length<=grownCap w l.length 0 e
  unfold grownCap Question.cut
  simp
def Zc0 (b:UInt8):Int:=if Zgb b then 1 else if isDg b then 2 else if isLt b then 3 else if isSy b then 4 else 0
theorem Zid (b:UInt8):Zgb b=true↔b.toNat=32∨b.toNat=10:=by
 simp only [Zgb,Bool.or_eq_true,decide_eq_true_eq]
 constructor
 ·rintro (rfl|rfl)
  ·exact .inl rfl
  ·exact .inr rfl
 ·rintro (h|h)
  ·exact .inl (UInt8.toNat_inj.1 h)
  ·exact .inr (UInt8.toNat_inj.1 h)
theorem Zp5 (b:UInt8):decide ((0:Int)<=firstIdx ⟨Znj.toArray⟩ b)=isSy b:=by
 unfold firstIdx
 cases hf:(List.range (ByteArray.size ⟨Znj.toArray⟩)).find? λi=>(({ data:=Znj.toArray }:ByteArray)[i]! == b) with
 | none =>
  have hn:isSy b=false:=Zxg (λj hj e=>by
   have:=(List.find?_eq_none.1 hf) j (List.mem_range.2 hj)
   apply this
   have h2:({ data:=Znj.toArray }:ByteArray)[j]! = b:=by
    have hj':j<({ data:=Znj.toArray }:ByteArray).size:=hj
    rw [getElem!_pos ({ data:=Znj.toArray }:ByteArray) j hj']
    exact (List.getElem?_eq_some_iff.1 e).2
   rw [h2];simp)
  rw [hn]
  show decide ((0:Int) <= -1)=false
  decide
 | some i =>
  have h1:=List.find?_some hf
  have h2:=List.mem_range.1 (List.mem_of_find?_eq_some hf)
  have hb:isSy b=true:=Zs8 (k:=i) (by
   rw [getElem!_pos ({ data:=Znj.toArray }:ByteArray) i h2] at h1
   have e:({ data:=Znj.toArray }:ByteArray)[i]=b:=by simpa using h1
   have h3:i<Znj.length:=h2
   rw [List.getElem?_eq_getElem h3]
   exact congrArg some e)
  rw [hb]
  show decide ((0:Int)<=(i:Int))=true
  simp
theorem I_sym (b:UInt8) (w:World):CL 130 #[.string ⟨#[43,45,42,47,40,41,44,61,59]⟩,.int .u8 b.toNat] w λe w'=>∃ r:Int,e=.returned (.int .i64 r)/\decide (0<=r)=isSy b/\w=w':=by
 have h68 := @run_callFunc_extern Tryz.prog 230 _ Extern.BytealgIndexByte.indexByte Tryz.func230 kr kr kr kr
 have hx:=λ(w:World)=>run_indexByte_string (P:=Tryz.prog) ⟨#[43,45,42,47,40,41,44,61,59]⟩ (b.toNat:Int) w
 have HF:=hdQ (Zp5 b)
 have e:(b.toNat:Int).toNat.toUInt8=b:=qs
 rw [e] at hx
 obtain ⟨r,hr⟩:=qv (firstIdx ⟨#[43,45,42,47,40,41,44,61,59]⟩ b)
 have HR:=hdQ hr
 rw [hr] at hx
 clear hr e
 go_enter Tryz.func130,Tryz.ntmps130
 go_wp2
 go_ret
 exact ⟨r,rfl,by rw [<- HR.out];exact HF.out,rfl⟩
theorem Zj0 (b:UInt8) (w:World):CL 239 #[.int .u8 b.toNat] w λe w'=>e=.returned (.int .i64 (Zc0 b))/\w=w':=by
 have HS:=hdQ (I_sym b)
 by_cases h32:b.toNat=32
 ·have HK:=qh (Zc0 b=1) (by unfold Zc0;rw [if_pos ((Zid b).2 (.inl h32))])
  have e1:((b.toNat:Int)==32)=true:=by rw [h32];rfl
  clear h32
  generalize (b.toNat:Int)=x at *
  go_enter Tryz.func239,Tryz.ntmps239
  go_wp2_with fail
  go_ret
  rw [HK.out];exact ⟨rfl,rfl⟩
 ·have e1:((b.toNat:Int)==32)=false:=by rw [beq_eq_false_iff_ne];omega
  by_cases h10:b.toNat=10
  ·have HK:=qh (Zc0 b=1) (by unfold Zc0;rw [if_pos ((Zid b).2 (.inr h10))])
   have e2:((b.toNat:Int)==10)=true:=by rw [h10];rfl
   clear h10 h32
   generalize (b.toNat:Int)=x at *
   go_enter Tryz.func239,Tryz.ntmps239
   go_wp2_with fail
   go_ret
   rw [HK.out];exact ⟨rfl,rfl⟩
  ·have e2:((b.toNat:Int)==10)=false:=by rw [beq_eq_false_iff_ne];omega
   have hsp:Zgb b=false:=by
    cases h:Zgb b with
    | false=>rfl
    | true=>have:=(Zid b).1 h;omega
   by_cases hd:48<=b.toNat/\b.toNat<=57
   ·have HK:=qh (Zc0 b=2) (by unfold Zc0;rw [hsp,(Zcu b).2 hd];rfl)
    have d1:(48:Int)<=b.toNat:=qo
    have d2:(b.toNat:Int)<=57:=qo
    clear h10 h32 hsp hd
    generalize (b.toNat:Int)=x at *
    go_enter Tryz.func239,Tryz.ntmps239
    go_wp2_with fail
    go_ret
    rw [HK.out];exact ⟨rfl,rfl⟩
   ·have hdg:=Zfx hd
    by_cases hl:97<=b.toNat/\b.toNat<=122
    ·have HK:=qh (Zc0 b=3) (by unfold Zc0;rw [hsp,hdg,(Zg2 b).2 hl];rfl)
     have l1:(97:Int)<=b.toNat:=qo
     have l2:(b.toNat:Int)<=122:=qo
     have l3:(48:Int)<=b.toNat:=qo
     have l4:¬ (b.toNat:Int)<=57:=qo
     clear h10 h32 hsp hd hdg hl
     generalize (b.toNat:Int)=x at *
     go_enter Tryz.func239,Tryz.ntmps239
     go_wp2_with fail
     go_ret
     rw [HK.out];exact ⟨rfl,rfl⟩
    ·have hlt:=Zs9 hl
     have HK:=qh (Zc0 b=if isSy b then 4 else 0) (by unfold Zc0;rw [hsp,hdg,hlt];rfl)
     have HD:=qh (¬ (48<=(b.toNat:Int)/\(b.toNat:Int)<=57)) qo
     have HL:=qh (¬ (97<=(b.toNat:Int)/\(b.toNat:Int)<=122)) qo
     clear h10 h32 hsp hd hdg hl hlt
     generalize (b.toNat:Int)=x at *
     cases hsy:isSy b with
     | true =>
      rw [hsy] at HS HK
      rcases (show x<48∨(57<x/\x<97)∨122<x by have:=HD.out;have:=HL.out;omega) with hx|⟨hx,hx2⟩|hx
      ·have k1:¬ 48<=x:=by omega
       have k2:¬ 97<=x:=qo
       clear hx
       go_enter Tryz.func239,Tryz.ntmps239
       go_wp2_with (first|(go_at_call 130;refine (HS.out _).mono ?_;rintro e w' ⟨r,rfl,hr,rfl⟩;have hr':0<=r:=by simpa using hr)|fail)
       go_ret
       rw [HK.out];exact ⟨rfl,rfl⟩
      ·have k1:48<=x:=by omega
       have k2:¬ x<=57:=qo
       have k3:¬ 97<=x:=qo
       clear hx hx2
       go_enter Tryz.func239,Tryz.ntmps239
       go_wp2_with (first|(go_at_call 130;refine (HS.out _).mono ?_;rintro e w' ⟨r,rfl,hr,rfl⟩;have hr':0<=r:=by simpa using hr)|fail)
       go_ret
       rw [HK.out];exact ⟨rfl,rfl⟩
      ·have k1:48<=x:=by omega
       have k2:¬ x<=57:=qo
       have k3:97<=x:=qo
       have k4:¬ x<=122:=qo
       clear hx
       go_enter Tryz.func239,Tryz.ntmps239
       go_wp2_with (first|(go_at_call 130;refine (HS.out _).mono ?_;rintro e w' ⟨r,rfl,hr,rfl⟩;have hr':0<=r:=by simpa using hr)|fail)
       go_ret
       rw [HK.out];exact ⟨rfl,rfl⟩
     | false =>
      rw [hsy] at HS HK
      rcases (show x<48∨(57<x/\x<97)∨122<x by have:=HD.out;have:=HL.out;omega) with hx|⟨hx,hx2⟩|hx
      ·have k1:¬ 48<=x:=by omega
       have k2:¬ 97<=x:=qo
       clear hx
       go_enter Tryz.func239,Tryz.ntmps239
       go_wp2_with (first|(go_at_call 130;refine (HS.out _).mono ?_;rintro e w' ⟨r,rfl,hr,rfl⟩;have hr':¬ 0<=r:=by simpa using hr)|fail)
       go_ret
       rw [HK.out];exact ⟨rfl,rfl⟩
      ·have k1:48<=x:=by omega
       have k2:¬ x<=57:=qo
       have k3:¬ 97<=x:=qo
       clear hx hx2
       go_enter Tryz.func239,Tryz.ntmps239
       go_wp2_with (first|(go_at_call 130;refine (HS.out _).mono ?_;rintro e w' ⟨r,rfl,hr,rfl⟩;have hr':¬ 0<=r:=by simpa using hr)|fail)
       go_ret
       rw [HK.out];exact ⟨rfl,rfl⟩
      ·have k1:48<=x:=by omega
       have k2:¬ x<=57:=qo
       have k3:97<=x:=qo
       have k4:¬ x<=122:=qo
       clear hx
       go_enter Tryz.func239,Tryz.ntmps239
       go_wp2_with (first|(go_at_call 130;refine (HS.out _).mono ?_;rintro e w' ⟨r,rfl,hr,rfl⟩;have hr':¬ 0<=r:=by simpa using hr)|fail)
       go_ret
       rw [HK.out];exact ⟨rfl,rfl⟩
theorem I_power (k:Nat) (hk:k<=6) (w:World):CL 215 #[.int .i64 k] w λe w'=>e=.returned (.int .i64 ((10 ^ k:Nat):Int))/\w=w':=by
 go_enter Tryz.func215,Tryz.ntmps215
 go_wp2_with fail
 go_loop [3,5] (λp i=>∃ j:Nat,j<=k/\i=.int .i64 j/\p=.int .i64 ((10 ^ j:Nat):Int)) (λ_ i=>k-(RowKit.intOf i).toNat)
 case atStart=>exact ⟨0,Nat.zero_le _,rfl,rfl⟩
 case round =>
  obtain ⟨j,hj,rfl,rfl⟩:=hrel
  have hp:(10 ^ j:Nat)<=1000000:=Nat.pow_le_pow_right (n:=10) qo (show j<=6 by omega)
  have HP:=qh ((10 ^ (j+1):Nat)=10 ^ j*10) (Nat.pow_succ _ _)
  by_cases hlt:j<k
  ·obtain ⟨U,hU⟩:=qv (10 ^ j)
   have HU:=hdQ hU
   rw [hU] at hp ⊢
   clear hU
   go_wp2_with fail
   go_round
   case rel=>exact ⟨j+1,qo,qg,by rw [HP.out,HU.out];go_num⟩
   case measure=>exact qn
  ·obtain rfl:j=k:=by omega
   go_wp2_with fail
   go_ret
   exact ⟨rfl,rfl⟩
theorem Zqj (l:List UInt8) (hd:DG l l.length) (hl:l.length<=4) (w:World):CR 288 #[str l] w ((.int .i64 (Zgu l))):=by
 obtain ⟨cap,w1,pad,hcv,ho,hb1,hz1,hcap⟩:=Zxs (P:=Tryz.prog) 9 36 5 l Tryz.underlying9 Tryz.underlying36 Tryz.underlying5 w
 have HO:=hdQ ho
 have HB1:=hdQ hb1
 have HD:=hdQ hd
 clear ho hb1 hd
 go_enter Tryz.func288,Tryz.ntmps288
 go_wp2_with fail
 clear hcv
 go_loop [3,5,9] (λv _ i=>∃ k:Nat,k<=l.length/\i=.int .i64 k/\v=.int .i64 (Zgu (l.take k):Int)) (λ_ _ i=>l.length-(RowKit.intOf i).toNat)
 case atStart=>exact ⟨0,Nat.zero_le _,rfl,rfl⟩
 case round =>
  obtain ⟨k,hk,rfl,rfl⟩:=hrel
  by_cases hlt:k<l.length
  ·obtain ⟨b,hb,hdb⟩:=HD.out k hlt
   have hdig:=(Zcu b).1 hdb
   have hdk:DG l k:=λj hj=>HD.out j qo
   have hv:Zgu (l.take k)<10000:=Nat.lt_of_lt_of_le hdk.val (Nat.le_trans (Nat.pow_le_pow_right qo (show k<=4 by omega)) (Nat.le_refl _))
   have HW:=hdQ (Zh2 hb)
   have c1:w1.cell? ⟨w.heap.size,k,none⟩=some (.int .u8 (b.toNat:Int)):=by
    rw [HO.out.cell,List.getElem?_append_left (by simpa using hlt),List.getElem?_map,hb];rfl
   obtain ⟨d,hd9,hd0,hdn⟩:=Zxn hdig
   have hd2:IntKind.i64.wrap (d:Int)=d:=IntWalk.i64_in _ qo
   obtain ⟨V,hV⟩:=qv (Zgu (l.take k))
   have HV:=hdQ hV
   rw [hV] at hv ⊢
   have hlt':(k:Int)<l.length:=qo
   clear hV hdk hb hdb hdig
   go_wp2_with fail
   go_round
   case rel=>exact ⟨k+1,qo,qg,by rw [HW.out,HV.out,hdn];go_num⟩
   case measure=>exact qn
  ·obtain rfl:k=l.length:=by omega
   go_wp2_with fail
   go_ret
   exact ⟨rfl,HB1.out⟩
def KG (f:UInt8->Bool) (l:List UInt8) (k:Nat):Prop:=∀ j,j<k->∃ b,l[j]? = some b/\f b=true
theorem KG.succ {f:UInt8->Bool} {l:List UInt8} {k:Nat} {b:UInt8} (h:KG f l k) (hb:l[k]? = some b) (hd:f b=true):KG f l (k+1):=by
 intro j hj
 by_cases e:j=k
 ·subst e;exact ⟨b,hb,hd⟩
 ·exact h j qo
def inK (ks:List Int) (b:UInt8):Bool:=ks.contains (Zc0 b)
theorem inK_take {ks:List Int} {j:Nat} (hj:j<ks.length) (x:Int):(ks.take (j+1)).contains x=((ks.take j).contains x||x==ks[j]):=by
 rw [List.take_succ_eq_append_getElem hj,List.contains_append]
 congr 1
 rw [Bool.eq_iff_iff];simp
theorem inK_dg (b:UInt8):inK [2] b=isDg b:=by
 unfold inK Zc0
 cases h1:Zgb b with
 | true =>
  have:=(Zid b).1 h1
  have h2:isDg b=false:=Zfx qo
  rw [h2];rfl
 | false =>
  cases h2:isDg b<;>simp [h2]
  cases h3:isLt b<;>simp [h3]
  cases h4:isSy b<;>simp [h4]
theorem inK_nm (b:UInt8):inK [3,2] b=Zpw b:=by
 unfold inK Zc0 Zpw
 cases h1:Zgb b with
 | true =>
  have:=(Zid b).1 h1
  have h2:isDg b=false:=Zfx qo
  have h3:isLt b=false:=Zs9 qo
  rw [h2,h3];rfl
 | false =>
  cases h2:isDg b<;>cases h3:isLt b<;>simp [h2,h3]
  cases h4:isSy b<;>simp [h4]
theorem Zj9 {f g:UInt8->Bool} (h:∀ b,f b=g b) (l:List UInt8):Zav f l=Zav g l:=by
 have:f=g:=funext h
 rw [this]
theorem kindK_sp {b:UInt8} (h:Zgb b=true):Zc0 b=1:=by unfold Zc0;rw [h];rfl
theorem kindK_ne {b:UInt8} (h:Zgb b=false):Zc0 b≠1:=by
 unfold Zc0;rw [h]
 cases isDg b<;>cases isLt b<;>cases isSy b<;>decide
theorem Ztq {src:List UInt8} {a:Nat} {ks:List Int} {A:OA} {c:Nat} (w:World) (ha:a<=src.length) (hs:src.length<=1048576) (hr:RS w 1 A ks.length c (ints ks)) (hk2:ks.length<=2) :
  CL 270 #[str src,.int .i64 a,.slice A ks.length c] w λe w'=>e=.returned (.int .i64 (Zav (inK ks) (src.drop a):Int))/\w=w':=by
 obtain ⟨hn,hc,hcell⟩:=hr.open_
 have HC:=hdQ hcell
 unfold maxLen at hc
 have HKO:=qh (∀ (b:UInt8) (wx:World),CL 239 #[.int .u8 b.toNat] wx λe w'=>e=.returned (.int .i64 (Zc0 b))/\wx=w') Zj0
 have HDR:=qh (∀ k,(src.drop a)[k]? = src[a+k]?) (λk=>List.getElem?_drop)
 clear hr hcell
 go_enter Tryz.func270,Tryz.ntmps270
 go_wp2_with fail
 go_loop [7,8,10,17,18,19] (λp _ _ _ _ _=>∃ k:Nat,a+k<=src.length/\p=.int .i64 k/\KG (inK ks) (src.drop a) k) (λp _ _ _ _ _=>src.length-(RowKit.intOf p).toNat)
 case atStart=>exact ⟨0,qo,rfl,λj hj=>absurd hj qo⟩
 case round =>
  obtain ⟨k,hak,rfl,hkg⟩:=hrel
  have HKG:=hdQ hkg
  clear hkg
  rcases Nat.lt_or_ge (a+k) src.length with hlt|hge
  ·obtain ⟨b,hb⟩:∃ b,src[a+k]? = some b:=⟨_,List.getElem?_eq_getElem hlt⟩
   have hat:=Znw hb
   have HB:=hdQ ((HDR.out k).trans hb)
   have hlt':(a:Int)+k<src.length:=qo
   have hwa:IntKind.i64.wrap ((a:Int)+k)=((a+k:Nat):Int):=by rw [show (a:Int)+k=((a+k:Nat):Int) by omega];exact IntWalk.i64_in _ qo
   have hwb:(a:Int)+k=((a+k:Nat):Int):=qo
   have HK1:=hdQ (HKO.out b)
   have HKB:=qh (inK ks b=ks.contains (Zc0 b)) rfl
   obtain ⟨q,hq⟩:=qv (Zc0 b)
   rw [hq] at HK1 HKB
   clear hb hq
   obtain ⟨ak,hak2⟩:=qv (a+k)
   rw [hak2] at hat hwa hwb hlt
   go_wp2_with fail
   go_loop [8,10,19] (λp _ i=>∃ j:Nat,j<=ks.length/\i=.int .i64 j/\p=.bool ((ks.take j).contains q)) (λ_ _ i=>ks.length-(RowKit.intOf i).toNat)
   case atStart=>exact ⟨0,Nat.zero_le _,rfl,rfl⟩
   case round =>
    obtain ⟨j,hj,rfl,rfl⟩:=hrel
    by_cases hlj:j<ks.length
    ·obtain ⟨bb,o,rfl,hbh,hcc⟩:=HC.out qo
     have d0:w.cell? ⟨bb,o+j,none⟩=some (.int .i64 ks[j]):=by rw [hcc j qo,List.getElem?_map,List.getElem?_eq_getElem hlj];rfl
     have HT:=hdQ (inK_take hlj q)
     have hlj':(j:Int)<ks.length:=qo
     obtain ⟨x,hx⟩:=qv (ks[j])
     rw [hx] at d0 HT
     clear hcc hx
     cases hcj:(ks.take j).contains q with
     | true =>
      rw [hcj] at HT
      clear hcj
      go_wp2_with fail
      go_round
      case rel=>exact ⟨j+1,qo,qg,by rw [HT.out];rfl⟩
      case measure=>exact qn
     | false =>
      rw [hcj] at HT
      clear hcj
      go_wp2_with (first|(go_at_call 239;refine (HK1.out _).mono ?_;rintro e w' ⟨rfl,rfl⟩)|fail)
      go_round
      case rel=>exact ⟨j+1,qo,qg,by rw [HT.out];rfl⟩
      case measure=>exact qn
    ·obtain rfl:j=ks.length:=by omega
     rw [List.take_length]
     cases hck:ks.contains q with
     | true =>
      have HN:=hdQ (HKG.out.succ HB.out (by rw [HKB.out,hck]))
      clear hck
      go_wp2_with fail
      go_round
      case rel=>exact ⟨k+1,qo,qg,HN.out⟩
      case measure=>exact qn
     | false =>
      have HSP:=qh (Zav (inK ks) (src.drop a)=k) (Zes HKG.out (λb' hb'=>by rw [HB.out] at hb';injection hb' with hb';subst hb';rw [HKB.out,hck]))
      clear hck
      go_wp2_with fail
      go_ret
      rw [HSP.out]
      exact ⟨rfl,rfl⟩
  ·have hge':¬ (a:Int)+k<src.length:=by omega
   have hwa:IntKind.i64.wrap ((a:Int)+k)=(a:Int)+k:=IntWalk.i64_in _ qo
   have HSP:=qh (Zav (inK ks) (src.drop a)=k) (Zes HKG.out (λb' hb'=>by rw [HDR.out,List.getElem?_eq_none qo] at hb';cases hb'))
   go_wp2_with fail
   go_ret
   rw [HSP.out]
   exact ⟨rfl,rfl⟩
def NumI (src:List UInt8) (a:Nat) (r:Option Zam) (w:World) (e:Ending) (w':World):Prop :=
 (match r with
 | none=>∃ g,e=.returned (.tuple #[Zhi (0,[],0,0),.iface 210 (.pointer (some ⟨g,0,none⟩))])/\w.heap.size<=g/\Own w' g 213 [.int .i64 a]
 | some x=>e=.returned (.tuple #[Zhi x,.nilIface]))/\Bw w w'
theorem Zyh {src:List UInt8} {a g:Nat} (w:World) (ha:a<=src.length) (hs:src.length<=1048576) (hg:g=w.heap.size) :
  CL 270 #[str src,.int .i64 a,.slice (some ⟨g,0,none⟩) 1 1] (w.alloc (.cells #[.int .i64 2] 3)) λe w'=>e=.returned (.int .i64 (Zav isDg (src.drop a):Int))/\w.alloc (.cells #[.int .i64 2] 3)=w':=by
 subst hg
 have h:=Ztq (ks:=[2]) (w.alloc (.cells #[.int .i64 2] 3)) ha hs (Own.rs (t:=3) (n:=1) (size:=1) (Own.new w 3 #[.int .i64 2]) rfl qo) qs
 rw [Zj9 inK_dg] at h
 exact h
theorem I_span2 {src:List UInt8} {a g:Nat} (w:World) (ha:a<=src.length) (hs:src.length<=1048576) (hg:g=w.heap.size) :
  CL 270 #[str src,.int .i64 a,.slice (some ⟨g,0,none⟩) 2 2] (w.alloc (.cells #[.int .i64 3,.int .i64 2] 3)) λe w'=>e=.returned (.int .i64 (Zav Zpw (src.drop a):Int))/\w.alloc (.cells #[.int .i64 3,.int .i64 2] 3)=w':=by
 subst hg
 have h:=Ztq (ks:=[3,2]) (w.alloc (.cells #[.int .i64 3,.int .i64 2] 3)) ha hs (Own.rs (t:=3) (n:=2) (size:=1) (Own.new w 3 #[.int .i64 3,.int .i64 2]) rfl qo) qs
 rw [Zj9 inK_nm] at h
 exact h
def numX (src:List UInt8) (a:Nat):Option Zam:=(numTok (src.drop a)).map λx=>(1,(src.drop a).take x.1,(x.2:Int),(a:Int))
theorem DG.of_span (l:List UInt8) (d:Nat) (h:d<=Zav isDg l):DG (l.take d) d:=λj hj=>by
 obtain ⟨b,hb,hd⟩:=Znl (f:=isDg) (l:=l) (j:=j) qo
 exact ⟨b,by rw [List.getElem?_take_of_lt hj];exact hb,hd⟩
theorem Zvh {src:List UInt8} {a:Nat} (w:World) (ha:a<=src.length) (hs:src.length<=1048576) :
  CL 269 #[str src,.int .i64 a] w (NumI src a (numX src a) w):=by
 have HNX:=qh (numX src a=(numTok (src.drop a)).map λx=>(1,(src.drop a).take x.1,(x.2:Int),(a:Int))) rfl
 obtain ⟨r,hr⟩:=qv (numX src a)
 rw [hr] at HNX ⊢
 clear hr
 obtain ⟨d,hd⟩:=qv (Zav isDg (src.drop a))
 have hdl:=Zgz isDg (src.drop a)
 rw [hd,List.length_drop] at hdl
 have HD:=hdQ hd
 have HS1:=qh (∀ X:Obj,CL 270 #[str src,.int .i64 a,.slice (some ⟨w.heap.size+1,0,none⟩) 1 1] ((w.alloc X).alloc (.cells #[.int .i64 2] 3)) λe w'=>e=.returned (.int .i64 (d:Int))/\(w.alloc X).alloc (.cells #[.int .i64 2] 3)=w') (λX=>by have:=Zyh (w.alloc X) ha hs (g:=w.heap.size+1) qs;rw [hd] at this;exact this)
 have had:IntKind.i64.wrap ((a:Int)+d)=(a:Int)+d:=IntWalk.i64_in _ qo
 by_cases h4:4<d
 ·have h4':(4:Int)<d:=by omega
  have hrr:r=none:=by rw [HNX.out,Zg1 (by rw [hd];exact h4)];rfl
  subst hrr
  clear hd h4
  go_enter Tryz.func269,Tryz.ntmps269
  go_wp2_with fail
  (with_reducible refine (HS1.out _).mono ?_)
  rintro e w' ⟨rfl,rfl⟩
  go_wp2_with fail
  refine bodyPost_ret (v:=.tuple #[Zhi (0,[],0,0),.iface 210 (.pointer (some ⟨w.heap.size+1+1,0,none⟩))]) (by simp [results,Tryz.results269,go_sem]) rfl ⟨⟨_,rfl,qo, ?_⟩,bll⟩
  (with_reducible refine Own.at_new ?_);simp
 ·have h4':¬ (4:Int)<d:=by omega
  obtain ⟨l1,hl1⟩:=qv ((src.drop a).take d)
  have hl1l:l1.length=d:=by rw [<- hl1,List.length_take,List.length_drop];omega
  have hdg1:DG l1 l1.length:=by rw [hl1l,<- hl1];exact DG.of_span _ _ (by rw [hd];exact Nat.le_refl _)
  have hv1:Zgu l1<10000:=by
   have:=hdg1.val
   rw [List.take_length] at this
   exact Nat.lt_of_lt_of_le this (Nat.le_trans (Nat.pow_le_pow_right qo (show l1.length<=4 by omega)) (Nat.le_refl _))
  have HV1:=qh (∀ wx,CR 288 #[str l1] wx (.int .i64 (Zgu l1))) (λwx=>Zqj l1 hdg1 qo wx)
  have hex:({ data:=src.toArray }:ByteArray).extract a (a+d)=⟨l1.toArray⟩:=by rw [Zfw,hl1]
  have HL1:=hdQ hl1
  obtain ⟨V,hV⟩:=qv (Zgu l1)
  have HV:=hdQ hV
  rw [hV] at hv1 HV1
  obtain ⟨E,hE⟩:=qv (a+d)
  have HE:=hdQ hE
  have hEi:(a:Int)+d=E:=qo
  have hEl:E<=src.length:=qo
  have haE:a<=E:=qo
  rw [hE] at hex
  rw [hEi] at had
  have i1:(a:Int)<=E:=qo
  have i2:(E:Int)<=src.length:=qo
  have hVw:IntKind.i64.wrap ((V:Int)*256)=(V:Int)*256:=IntWalk.i64_in _ qo
  have hNo:=qh (src[E]? ≠ some 46->r=some (1,l1,((V*256:Nat):Int),(a:Int))) (λh=>by
   rw [HNX.out,Zfm hd h4 (by rw [List.getElem?_drop,HE.out];exact h)]
   simp only [Option.map_some]
   rw [HL1.out,HV.out])
  have H4:=hdQ h4
  clear hV hl1 hdg1 hl1l hE hd h4
  rcases Nat.lt_or_ge E src.length with hlt|hge
  ·obtain ⟨b,hb⟩:∃ b,src[E]? = some b:=⟨_,List.getElem?_eq_getElem hlt⟩
   have hat:=Znw hb
   have HBt:=hdQ hb
   have hlt':(E:Int)<src.length:=qo
   clear hb
   by_cases h46:b=46
   ·subst h46
    have hE1:E+1<=src.length:=hlt
    have H46:=qh ((src.drop a)[d]? = some 46) (by rw [List.getElem?_drop,HE.out];exact HBt.out)
    have HDR:=qh ((src.drop a).drop (d+1)=src.drop (E+1)) (by rw [List.drop_drop];congr 1;have:=HE.out;omega)
    obtain ⟨q,hq⟩:=qv (Zav isDg (src.drop (E+1)))
    have hql:=Zgz isDg (src.drop (E+1))
    rw [hq,List.length_drop] at hql
    have HQ1:=hdQ hq
    have HQ2:=qh (Zav isDg ((src.drop a).drop (d+1))=q) (by rw [HDR.out];exact hq)
    have HS2:=qh (∀ wx:World,CL 270 #[str src,.int .i64 ((E:Int)+1),.slice (some ⟨wx.heap.size,0,none⟩) 1 1] (wx.alloc (.cells #[.int .i64 2] 3)) λe w'=>e=.returned (.int .i64 (q:Int))/\wx.alloc (.cells #[.int .i64 2] 3)=w') (λwx=>by have:=Zyh (a:=E+1) wx hE1 hs rfl;rw [hq] at this;simpa using this)
    clear hq
    rcases (show q<1∨4<q∨(1<=q/\q<=4) by omega) with hq1|hq1|⟨hq1,hq4⟩
    ·have hq1':(q:Int)<1:=by omega
     have hrr:r=none:=by rw [HNX.out,Zdq HD.out H46.out HQ2.out (.inl hq1)];rfl
     subst hrr
     go_enter Tryz.func269,Tryz.ntmps269
     go_wp2_with fail
     (with_reducible refine (HS1.out _).mono ?_)
     rintro e w' ⟨rfl,rfl⟩
     go_wp2_with fail
     refine (HV1.out _).mono ?_
     rintro e w1 ⟨rfl,hb1⟩
     have hz1:=hb1.size
     (try simp at hz1)
     have HB1:=bh w hb1
     have HX1:=qh (Own w1 w.heap.size 101 [.int .i64 0,.string ⟨#[]⟩,.int .i64 0,.int .i64 0]) (Own.step hb1 (Own.alloc (Own.new w 101 #[_,_,_,_]) _))
     have b0:=HX1.out.cell 0
     have b1:=HX1.out.cell 1
     have b2:=HX1.out.cell 2
     have b3:=HX1.out.cell 3
     have bf:=HX1.out.frozen
     have bz:=HX1.out.lt
     (try dsimp only [List.getElem?_cons_succ,List.getElem?_cons_zero] at b0 b1 b2 b3)
     clear hb1
     go_wp2_with fail
     refine (HS2.out _).mono ?_
     rintro e w' ⟨rfl,rfl⟩
     go_wp2_with fail
     refine bodyPost_ret (v:=.tuple #[Zhi (0,[],0,0),.iface 210 (.pointer (some ⟨w1.heap.size+1,0,none⟩))]) (by simp [results,Tryz.results269,go_sem, *]) rfl ⟨⟨_,rfl,qo, ?_⟩,bll⟩
     (with_reducible refine Own.at_new ?_);simp
    ·have hq1':¬ (q:Int)<1:=by omega
     have hq2':(4:Int)<q:=qo
     have hrr:r=none:=by rw [HNX.out,Zdq HD.out H46.out HQ2.out (.inr hq1)];rfl
     subst hrr
     go_enter Tryz.func269,Tryz.ntmps269
     go_wp2_with fail
     (with_reducible refine (HS1.out _).mono ?_)
     rintro e w' ⟨rfl,rfl⟩
     go_wp2_with fail
     refine (HV1.out _).mono ?_
     rintro e w1 ⟨rfl,hb1⟩
     have hz1:=hb1.size
     (try simp at hz1)
     have HB1:=bh w hb1
     have HX1:=qh (Own w1 w.heap.size 101 [.int .i64 0,.string ⟨#[]⟩,.int .i64 0,.int .i64 0]) (Own.step hb1 (Own.alloc (Own.new w 101 #[_,_,_,_]) _))
     have b0:=HX1.out.cell 0
     have b1:=HX1.out.cell 1
     have b2:=HX1.out.cell 2
     have b3:=HX1.out.cell 3
     have bf:=HX1.out.frozen
     have bz:=HX1.out.lt
     (try dsimp only [List.getElem?_cons_succ,List.getElem?_cons_zero] at b0 b1 b2 b3)
     clear hb1
     go_wp2_with fail
     refine (HS2.out _).mono ?_
     rintro e w' ⟨rfl,rfl⟩
     go_wp2_with fail
     refine bodyPost_ret (v:=.tuple #[Zhi (0,[],0,0),.iface 210 (.pointer (some ⟨w1.heap.size+1,0,none⟩))]) (by simp [results,Tryz.results269,go_sem, *]) rfl ⟨⟨_,rfl,qo, ?_⟩,bll⟩
     (with_reducible refine Own.at_new ?_);simp
    ·have hq1':¬ (q:Int)<1:=by omega
     have hq2':¬ (4:Int)<q:=qo
     obtain ⟨l2,hl2⟩:=qv ((src.drop (E+1)).take q)
     have hl2l:l2.length=q:=by rw [<- hl2,List.length_take,List.length_drop];omega
     have hdg2:DG l2 l2.length:=by rw [hl2l,<- hl2];exact DG.of_span _ _ (by rw [HQ1.out];exact Nat.le_refl _)
     have hv2:Zgu l2<10000:=by
      have:=hdg2.val
      rw [List.take_length] at this
      exact Nat.lt_of_lt_of_le this (Nat.le_trans (Nat.pow_le_pow_right qo (show l2.length<=4 by omega)) (Nat.le_refl _))
     have HV2:=qh (∀ wx,CR 288 #[str l2] wx (.int .i64 (Zgu l2))) (λwx=>Zqj l2 hdg2 qo wx)
     have HPW:=qh (∀ wx,CL 215 #[.int .i64 q] wx λe w'=>e=.returned (.int .i64 ((10 ^ q:Nat):Int))/\wx=w') (λwx=>I_power q qo wx)
     obtain ⟨U,hU⟩:=qv (10 ^ q)
     have hU0:0<U:=by rw [<- hU];exact Nat.pow_pos qo
     have hU1:U<=10000:=by rw [<- hU];exact Nat.pow_le_pow_right qo hq4
     have HU:=hdQ hU
     rw [hU] at HPW
     obtain ⟨F,hF⟩:=qv (Zgu l2)
     have HF:=hdQ hF
     rw [hF] at hv2 HV2
     have HL2:=hdQ hl2
     have hex2:({ data:=src.toArray }:ByteArray).extract (E+1) (E+1+q)=⟨l2.toArray⟩:=by rw [Zfw,hl2]
     obtain ⟨G,hG⟩:=qv (E+1+q)
     have HGE:=hdQ hG
     rw [hG] at hex2
     have hGl:G<=src.length:=qo
     have hg1:IntKind.i64.wrap ((E:Int)+1+q)=G:=by rw [show (E:Int)+1+q=((G:Nat):Int) by omega];exact IntWalk.i64_in _ qo
     have hg2:(E:Int)+1+q=G:=qo
     have hg3:(E:Int)+(1+q)=G:=qo
     have hg4:IntKind.i64.wrap ((1:Int)+q)=1+q:=IntWalk.i64_in _ qo
     have hg5:IntKind.i64.wrap ((E:Int)+(1+q))=G:=by rw [show (E:Int)+(1+q)=((G:Nat):Int) by omega];exact IntWalk.i64_in _ qo
     have i3:(E:Int)+1<=G:=qo
     have i4:(G:Int)<=src.length:=qo
     have i5:(a:Int)<=G:=qo
     have hFw:IntKind.i64.wrap ((F:Int)*256)=(F:Int)*256:=IntWalk.i64_in _ qo
     have hU2:¬ U=0:=qo
     obtain ⟨Q,hQn⟩:=qv (F*256 / U)
     have hQl:Q<=F*256:=by rw [<- hQn];exact Nat.div_le_self _ _
     have HQN:=hdQ hQn
     have hQ:(F:Int)*256 / U=(Q:Int):=by rw [<- hQn];simp
     have hdv:Int.tdiv ((F:Int)*256) U=(Q:Int):=by rw [show ((F:Int)*256)=((F*256:Nat):Int) by omega,<- hQn];rfl
     have hqw:IntKind.i64.wrap (Q:Int)=Q:=IntWalk.i64_in _ qo
     have hww:IntKind.i64.wrap ((V:Int)*256+Q)=(V:Int)*256+Q:=IntWalk.i64_in _ qo
     have HEX3:=qh (({ data:=src.toArray }:ByteArray).extract a G=⟨((src.drop a).take (d+1+q)).toArray⟩) (by rw [<- Zfw];congr 1;have:=HE.out;omega)
     obtain ⟨l3,hl3⟩:=qv ((src.drop a).take (d+1+q))
     have hex3:=HEX3.out
     rw [hl3] at hex3
     have hrr:r=some (1,l3,((V*256+Q:Nat):Int),(a:Int)):=by
      rw [HNX.out,Zfn HD.out H4.out H46.out HQ2.out qo]
      simp only [Option.map_some]
      rw [HDR.out,HL2.out,HL1.out,HV.out,HF.out,HU.out,HQN.out,hl3]
     subst hrr
     clear hl2 hl2l hdg2 hU hF hG hQn hl3 HEX3
     go_enter Tryz.func269,Tryz.ntmps269
     go_wp2_with fail
     (with_reducible refine (HS1.out _).mono ?_)
     rintro e w' ⟨rfl,rfl⟩
     go_wp2_with fail
     refine (HV1.out _).mono ?_
     rintro e w1 ⟨rfl,hb1⟩
     have hz1:=hb1.size
     (try simp at hz1)
     have HB1:=bh w hb1
     have HX1:=qh (Own w1 w.heap.size 101 [.int .i64 0,.string ⟨#[]⟩,.int .i64 0,.int .i64 0]) (Own.step hb1 (Own.alloc (Own.new w 101 #[_,_,_,_]) _))
     have b0:=HX1.out.cell 0
     have b1:=HX1.out.cell 1
     have b2:=HX1.out.cell 2
     have b3:=HX1.out.cell 3
     have bf:=HX1.out.frozen
     have bz:=HX1.out.lt
     (try dsimp only [List.getElem?_cons_succ,List.getElem?_cons_zero] at b0 b1 b2 b3)
     clear hb1
     go_wp2_with fail
     refine (HS2.out _).mono ?_
     rintro e w' ⟨rfl,rfl⟩
     go_wp2_with fail
     refine (HV2.out _).mono ?_
     rintro e w2 ⟨rfl,hb2⟩
     have hz2:=hb2.size
     (try simp at hz2)
     have HB2:=bh w hb2
     have HX2:=qh (Own w2 w.heap.size 101 [.int .i64 0,.string ⟨#[]⟩,.int .i64 0,.int .i64 0]) (Own.step hb2 (Own.alloc HX1.out _))
     clear b0 b1 b2 b3 bf bz
     have b0:=HX2.out.cell 0
     have b1:=HX2.out.cell 1
     have b2:=HX2.out.cell 2
     have b3:=HX2.out.cell 3
     have bf:=HX2.out.frozen
     have bz:=HX2.out.lt
     (try dsimp only [List.getElem?_cons_succ,List.getElem?_cons_zero] at b0 b1 b2 b3)
     clear hb2
     go_wp2_with fail
     (with_reducible refine (HPW.out _).mono ?_)
     rintro e w' ⟨rfl,rfl⟩
     go_wp2_with fail
     exact bodyPost_ret (v:=.tuple #[Zhi (1,l3,((V*256+Q:Nat):Int),(a:Int)),.nilIface]) (by simp [results,Tryz.results269,go_sem, *]) rfl ⟨rfl,bll⟩
   ·have hne:((b.toNat:Int)==46)=false:=by rw [beq_eq_false_iff_ne];intro e;exact h46 (UInt8.toNat_inj.1 (by show b.toNat=46;omega))
    have hrr:=hNo.out (by rw [HBt.out];intro e;injection e with e;exact h46 e)
    subst hrr
    clear h46
    go_enter Tryz.func269,Tryz.ntmps269
    go_wp2_with fail
    (with_reducible refine (HS1.out _).mono ?_)
    rintro e w' ⟨rfl,rfl⟩
    go_wp2_with fail
    refine (HV1.out _).mono ?_
    rintro e w1 ⟨rfl,hb1⟩
    have hz1:=hb1.size
    (try simp at hz1)
    have HB1:=bh w hb1
    have HX1:=qh (Own w1 w.heap.size 101 [.int .i64 0,.string ⟨#[]⟩,.int .i64 0,.int .i64 0]) (Own.step hb1 (Own.alloc (Own.new w 101 #[_,_,_,_]) _))
    have b0:=HX1.out.cell 0
    have b1:=HX1.out.cell 1
    have b2:=HX1.out.cell 2
    have b3:=HX1.out.cell 3
    have bf:=HX1.out.frozen
    have bz:=HX1.out.lt
    (try dsimp only [List.getElem?_cons_succ,List.getElem?_cons_zero] at b0 b1 b2 b3)
    clear hb1
    go_wp2_with fail
    exact bodyPost_ret (v:=.tuple #[Zhi (1,l1,((V*256:Nat):Int),(a:Int)),.nilIface]) (by simp [results,Tryz.results269,go_sem, *]) rfl ⟨rfl,bll⟩
  ·have hge':¬ (E:Int)<src.length:=by omega
   have hrr:=hNo.out (by rw [List.getElem?_eq_none hge];simp)
   subst hrr
   go_enter Tryz.func269,Tryz.ntmps269
   go_wp2_with fail
   (with_reducible refine (HS1.out _).mono ?_)
   rintro e w' ⟨rfl,rfl⟩
   go_wp2_with fail
   refine (HV1.out _).mono ?_
   rintro e w1 ⟨rfl,hb1⟩
   have hz1:=hb1.size
   (try simp at hz1)
   have HB1:=bh w hb1
   have HX1:=qh (Own w1 w.heap.size 101 [.int .i64 0,.string ⟨#[]⟩,.int .i64 0,.int .i64 0]) (Own.step hb1 (Own.alloc (Own.new w 101 #[_,_,_,_]) _))
   have b0:=HX1.out.cell 0
   have b1:=HX1.out.cell 1
   have b2:=HX1.out.cell 2
   have b3:=HX1.out.cell 3
   have bf:=HX1.out.frozen
   have bz:=HX1.out.lt
   (try dsimp only [List.getElem?_cons_succ,List.getElem?_cons_zero] at b0 b1 b2 b3)
   clear hb1
   go_wp2_with fail
   exact bodyPost_ret (v:=.tuple #[Zhi (1,l1,((V*256:Nat):Int),(a:Int)),.nilIface]) (by simp [results,Tryz.results269,go_sem, *]) rfl ⟨rfl,bll⟩
def Znf (src:List UInt8) (a:Nat):Option Zam:=(Zaq (src.drop a)).map λx=>(x.1,(src.drop a).take x.2.1,(x.2.2:Int),(a:Int))
theorem tokX_num {src:List UInt8} {a:Nat} {b:UInt8} (h:∃ q,src.drop a=b::q) (hd:isDg b=true):Znf src a=numX src a:=by
 unfold Znf numX
 rw [Zsr h hd]
 cases numTok (src.drop a)<;>rfl
theorem kindK_dg {b:UInt8} (h:Zgb b=false) (hd:isDg b=true):Zc0 b=2:=by unfold Zc0;rw [h,hd];rfl
theorem kindK_lt {b:UInt8} (h:Zgb b=false) (hd:isDg b=false) (hl:isLt b=true):Zc0 b=3:=by unfold Zc0;rw [h,hd,hl];rfl
theorem kindK_sy {b:UInt8} (h:Zgb b=false) (hd:isDg b=false) (hl:isLt b=false) (hs:isSy b=true):Zc0 b=4:=by unfold Zc0;rw [h,hd,hl,hs];rfl
theorem kindK_no {b:UInt8} (h:Zgb b=false) (hd:isDg b=false) (hl:isLt b=false) (hs:isSy b=false):Zc0 b=0:=by unfold Zc0;rw [h,hd,hl,hs];rfl
theorem Zso {src:List UInt8} {a:Nat} {b:UInt8} (h:∃ q,src.drop a=b::q):(src.drop a).take 1=[b]:=by obtain ⟨q,hq⟩:=h;rw [hq];rfl
theorem Zyf {src:List UInt8} {a:Nat} {b:UInt8} (w:World) (hb:src[a]? = some b) (hsp:Zgb b=false) (hs:src.length<=1048576) :
  CL 240 #[str src,.int .i64 a] w (NumI src a (Znf src a) w):=by
 have ha:a<src.length:=by
  rcases Nat.lt_or_ge a src.length with h|h
  ·exact h
  ·rw [List.getElem?_eq_none h] at hb;cases hb
 have hat:=Znw hb
 have HQ:=hdQ (Zp8 hb)
 have ha':(a:Int)<src.length:=qo
 clear hb
 have HKO:=qh (∀ wx:World,CL 239 #[.int .u8 b.toNat] wx λe w'=>e=.returned (.int .i64 (Zc0 b))/\wx=w') (Zj0 b)
 have HX:=qh (∀ b:UInt8,(∃ q,src.drop a=b::q)->Znf src a=(Zaq (src.drop a)).map λx=>(x.1,(src.drop a).take x.2.1,(x.2.2:Int),(a:Int))) (λ_ _=>rfl)
 cases hd:isDg b with
 | true =>
  rw [kindK_dg hsp hd] at HKO
  have HN:=qh (∀ wx,CL 269 #[str src,.int .i64 a] wx (NumI src a (Znf src a) wx)) (λwx=>by rw [tokX_num HQ.out hd];exact Zvh wx (Nat.le_of_lt ha) hs)
  clear hd hsp HX
  cases hx:Znf src a with
  | none =>
   rw [hx] at HN
   have HN2:=qh (∀ wx,CL 269 #[str src,.int .i64 a] wx λe w'=>(∃ g,e=.returned (.tuple #[Zhi (0,[],0,0),.iface 210 (.pointer (some ⟨g,0,none⟩))])/\wx.heap.size<=g/\Own w' g 213 [.int .i64 a])/\Bw wx w') HN.out
   clear HN hx
   go_enter Tryz.func240,Tryz.ntmps240
   go_wp2_with (first|(go_at_call 239;refine (HKO.out _).mono ?_;rintro e w' ⟨rfl,rfl⟩)|fail)
   refine (HN2.out _).mono ?_
   rintro e w1 ⟨⟨g,rfl,hg,ho⟩,hb1⟩
   have hz1:=hb1.size
   (try simp at hz1 hg)
   have hg2:=ho.lt
   have HB1:=bh w hb1
   have HX1:=qh (Own w1 w.heap.size 101 [.int .i64 0,.string ⟨#[]⟩,.int .i64 0,.int .i64 0]) (Own.step hb1 (Own.new w 101 #[_,_,_,_]))
   have HO:=hdQ ho
   have b0:=HX1.out.cell 0
   have b1:=HX1.out.cell 1
   have b2:=HX1.out.cell 2
   have b3:=HX1.out.cell 3
   have bf:=HX1.out.frozen
   have bz:=HX1.out.lt
   (try dsimp only [List.getElem?_cons_succ,List.getElem?_cons_zero] at b0 b1 b2 b3)
   clear hb1 ho
   go_wp2_with fail
   refine bodyPost_ret (v:=.tuple #[Zhi (0,[],0,0),.iface 210 (.pointer (some ⟨g,0,none⟩))]) (by simp [results,Tryz.results240,go_sem, *]) rfl ⟨⟨_,rfl,qo, ?_⟩,bll⟩
   exact (owx HO.out)
  | some r =>
   rw [hx] at HN
   have HN2:=qh (∀ wx,CR 269 #[str src,.int .i64 a] wx (.tuple #[Zhi r,.nilIface])) HN.out
   clear HN hx
   go_enter Tryz.func240,Tryz.ntmps240
   go_wp2_with (first|(go_at_call 239;refine (HKO.out _).mono ?_;rintro e w' ⟨rfl,rfl⟩)|fail)
   refine (HN2.out _).mono ?_
   rintro e w1 ⟨rfl,hb1⟩
   have hz1:=hb1.size
   (try simp at hz1)
   have HB1:=bh w hb1
   have HX1:=qh (Own w1 w.heap.size 101 [.int .i64 0,.string ⟨#[]⟩,.int .i64 0,.int .i64 0]) (Own.step hb1 (Own.new w 101 #[_,_,_,_]))
   have b0:=HX1.out.cell 0
   have b1:=HX1.out.cell 1
   have b2:=HX1.out.cell 2
   have b3:=HX1.out.cell 3
   have bf:=HX1.out.frozen
   have bz:=HX1.out.lt
   (try dsimp only [List.getElem?_cons_succ,List.getElem?_cons_zero] at b0 b1 b2 b3)
   clear hb1
   go_wp2_with fail
   exact bodyPost_ret (v:=.tuple #[Zhi r,.nilIface]) (by simp [results,Tryz.results240,go_sem, *]) rfl ⟨rfl,bll⟩
 | false =>
  cases hl:isLt b with
  | true =>
   rw [kindK_lt hsp hd hl] at HKO
   have HTX:=qh (Znf src a=if 8<Zav Zpw (src.drop a) then none else some (2,(src.drop a).take (Zav Zpw (src.drop a)),0,(a:Int))) (by
    unfold Znf;rw [Zo8 HQ.out hd hl];split<;>rfl)
   clear hd hsp HX hl
   obtain ⟨d,hdd⟩:=qv (Zav Zpw (src.drop a))
   have hdl:=Zgz Zpw (src.drop a)
   rw [hdd,List.length_drop] at hdl
   have HS2:=qh (∀ X:Obj,CL 270 #[str src,.int .i64 a,.slice (some ⟨w.heap.size+1,0,none⟩) 2 2] ((w.alloc X).alloc (.cells #[.int .i64 3,.int .i64 2] 3)) λe w'=>e=.returned (.int .i64 (d:Int))/\(w.alloc X).alloc (.cells #[.int .i64 3,.int .i64 2] 3)=w') (λX=>by have:=I_span2 (w.alloc X) (Nat.le_of_lt ha) hs (g:=w.heap.size+1) qs;rw [hdd] at this;exact this)
   rw [hdd] at HTX
   clear hdd
   by_cases h8:8<d
   ·have h8':(8:Int)<d:=by omega
    have hx:Znf src a=none:=by rw [HTX.out,if_pos h8]
    rw [hx]
    clear hx h8 HTX
    go_enter Tryz.func240,Tryz.ntmps240
    go_wp2_with (first|(go_at_call 239;refine (HKO.out _).mono ?_;rintro e w' ⟨rfl,rfl⟩)|fail)
    (with_reducible refine (HS2.out _).mono ?_)
    rintro e w' ⟨rfl,rfl⟩
    go_wp2_with fail
    refine bodyPost_ret (v:=.tuple #[Zhi (0,[],0,0),.iface 210 (.pointer (some ⟨w.heap.size+1+1,0,none⟩))]) (by simp [results,Tryz.results240,go_sem]) rfl ⟨⟨_,rfl,qo, ?_⟩,bll⟩
    (with_reducible refine Own.at_new ?_);simp
   ·have h8':¬ (8:Int)<d:=by omega
    have hx:Znf src a=some (2,(src.drop a).take d,0,(a:Int)):=by rw [HTX.out,if_neg h8]
    rw [hx]
    clear hx h8 HTX
    obtain ⟨u,hu⟩:=qv ((src.drop a).take d)
    have hex:({ data:=src.toArray }:ByteArray).extract a (a+d)=⟨u.toArray⟩:=by rw [Zfw,hu]
    rw [hu]
    obtain ⟨E,hE⟩:=qv (a+d)
    have had:IntKind.i64.wrap ((a:Int)+d)=E:=by rw [show (a:Int)+d=((E:Nat):Int) by omega];exact IntWalk.i64_in _ qo
    have hEi:(a:Int)+d=E:=qo
    rw [hE] at hex
    have i1:(a:Int)<=E:=qo
    have i2:(E:Int)<=src.length:=qo
    clear hu hE
    go_enter Tryz.func240,Tryz.ntmps240
    go_wp2_with (first|(go_at_call 239;refine (HKO.out _).mono ?_;rintro e w' ⟨rfl,rfl⟩)|fail)
    (with_reducible refine (HS2.out _).mono ?_)
    rintro e w' ⟨rfl,rfl⟩
    go_wp2_with fail
    exact bodyPost_ret (v:=.tuple #[Zhi (2,u,0,(a:Int)),.nilIface]) (by simp [results,Tryz.results240,go_sem, *]) rfl ⟨rfl,bll⟩
  | false =>
   cases hy:isSy b with
   | true =>
    rw [kindK_sy hsp hd hl hy] at HKO
    have hx:Znf src a=some (3,[b],0,(a:Int)):=by
     unfold Znf;rw [Znn HQ.out hd hl,if_pos hy]
     simp only [Option.map_some]
     rw [Zso HQ.out];rfl
    rw [hx]
    have hex:({ data:=src.toArray }:ByteArray).extract a (a+1)=⟨[b].toArray⟩:=by rw [Zfw,Zso HQ.out]
    have had:IntKind.i64.wrap ((a:Int)+1)=a+1:=IntWalk.i64_in _ qo
    have i2:(a:Int)+1<=src.length:=qo
    obtain ⟨u,hu⟩:=qv ([b])
    rw [hu] at hex ⊢
    clear hd hsp HX hl hy hx hu
    go_enter Tryz.func240,Tryz.ntmps240
    go_wp2_with (first|(go_at_call 239;refine (HKO.out _).mono ?_;rintro e w' ⟨rfl,rfl⟩)|fail)
    exact bodyPost_ret (v:=.tuple #[Zhi (3,u,0,(a:Int)),.nilIface]) (by simp [results,Tryz.results240,go_sem, *]) rfl ⟨rfl,bll⟩
   | false =>
    rw [kindK_no hsp hd hl hy] at HKO
    have hx:Znf src a=none:=by
     unfold Znf;rw [Znn HQ.out hd hl,if_neg (by rw [hy];decide)];rfl
    rw [hx]
    clear hd hsp HX hl hy hx
    go_enter Tryz.func240,Tryz.ntmps240
    go_wp2_with (first|(go_at_call 239;refine (HKO.out _).mono ?_;rintro e w' ⟨rfl,rfl⟩)|fail)
    refine bodyPost_ret (v:=.tuple #[Zhi (0,[],0,0),.iface 210 (.pointer (some ⟨w.heap.size+1,0,none⟩))]) (by simp [results,Tryz.results240,go_sem]) rfl ⟨⟨_,rfl,qo, ?_⟩,bll⟩
    (with_reducible refine Own.at_new ?_);simp
def Zdu (src:List UInt8) (w:World) (e:Ending) (w':World):Prop :=
 match toksF src with
 | .error o=>(∃ g,e=.returned (.tuple #[.slice none 0 0,.iface 210 (.pointer (some ⟨g,0,none⟩))])/\w.heap.size<=g/\Own w' g 213 [.int .i64 o])/\Bw w w'
 | .ok T=>∃ A c,e=.returned (.tuple #[.slice A T.length c,.nilIface])/\Zaj w' w.heap.size 101 4 A T.length c (Zip T)/\Bw w w'
theorem Zdu.no {src:List UInt8} {w w':World} {o g:Nat} (h:toksF src=.error o) (hg:w.heap.size<=g) (ho:Own w' g 213 [.int .i64 o]) (hb:Bw w w'):Zdu src w (.returned (.tuple #[.slice none 0 0,.iface 210 (.pointer (some ⟨g,0,none⟩))])) w':=by
 unfold Zdu;rw [h];exact ⟨⟨_,rfl,hg,ho⟩,hb⟩
theorem Zdu.yes {src:List UInt8} {w w':World} {T:List Zam} {A:OA} {n c:Nat} (h:toksF src=.ok T) (hn:n=T.length) (hg:Zaj w' w.heap.size 101 4 A n c (Zip T)) (hb:Bw w w'):Zdu src w (.returned (.tuple #[.slice A n c,.nilIface])) w':=by
 subst hn;unfold Zdu;rw [h];exact ⟨_,_,rfl,hg,hb⟩
theorem Zve {src:List UInt8} (w:World) (hs:src.length<=1048576) :
  CL 190 #[str src] w (Zdu src w):=by
 have HG0:=qh (Zaj (w.alloc (.cells #[] 101)) w.heap.size 101 4 (some ⟨w.heap.size,0,none⟩) 0 0 []) (Zaj.lit w #[] 0 rfl (Nat.le_refl _) (Nat.zero_le _))
 rcases Nat.lt_or_ge 2000 src.length with hlen|hlen
 ·have HF:=hdQ (Zmf hlen)
  have h1:(2000:Int)<src.length:=qo
  go_enter Tryz.func190,Tryz.ntmps190
  go_wp2_with fail
  go_ret2
  refine Zdu.no HF.out (Nat.le_succ_of_le (Nat.le_refl _)) ?_ bll
  show Own _ _ _ (#[Value.int .i64 0]:Array Value).toList
  exact Own.at_new qs
 ·have h1:¬ (2000:Int)<src.length:=by omega
  have HL:=qh (¬ 2000<src.length) qo
  go_enter Tryz.func190,Tryz.ntmps190
  go_wp2_with fail
  go_loopw [4,5] (λo_ a_ wr=>∃ (a:Nat) (l:List Zam) (A:OA) (c:Nat),a<=src.length/\a_=.int .i64 a/\o_=.slice A l.length c/\Zqr src a l/\Zaj wr w.heap.size 101 4 A l.length c (Zip l)/\Bw w wr) (λ_ a_ _=>src.length-(RowKit.intOf a_).toNat)
  case atStart=>exact ⟨0,[],_,_,Nat.zero_le _,rfl,rfl,Zqr.zero _,HG0.out,bll⟩
  case round =>
   obtain ⟨a,l,A,c,hal,rfl,rfl,ht,hg,hb⟩:=hrel
   obtain ⟨wo,rfl⟩:=qe wr
   have hla:=ht.1
   have hz:=hb.size
   have HT:=hdQ ht
   have HG:=hdQ hg
   have HB:=hdQ hb
   clear ht hg hb HG0
   rcases Nat.lt_or_ge a src.length with hlt|hge
   ·obtain ⟨b,hb⟩:∃ b,src[a]? = some b:=⟨_,List.getElem?_eq_getElem hlt⟩
    have hat:=Znw hb
    have HBt:=hdQ hb
    have hlt':(a:Int)<src.length:=qo
    clear hb
    cases hsp:Zgb b with
    | true =>
     have HKO:=qh (∀ wx:World,CL 239 #[.int .u8 b.toNat] wx λe w'=>e=.returned (.int .i64 1)/\wx=w') (by have:=Zj0 b;rw [kindK_sp hsp] at this;exact this)
     have HN:=hdQ (HT.out.space HBt.out hsp)
     clear hsp
     go_wp2_with (first|(go_at_call 239;refine (HKO.out _).mono ?_;rintro e w' ⟨rfl,rfl⟩)|fail)
     go_roundw
     case rel=>exact ⟨a+1,l,_,_,qo,qg,rfl,HN.out,HG.out,HB.out⟩
     case measure=>exact qn
    | false =>
     have HSP:=hdQ hsp
     have hk1:(Zc0 b==1)=false:=beq_eq_false_iff_ne.2 (kindK_ne hsp)
     obtain ⟨kk,hkk⟩:=qv (Zc0 b)
     have HKO:=qh (∀ wx:World,CL 239 #[.int .u8 b.toNat] wx λe w'=>e=.returned (.int .i64 kk)/\wx=w') (by have:=Zj0 b;rw [hkk] at this;exact this)
     rw [hkk] at hk1
     have HSC:=qh (∀ wx,CL 240 #[str src,.int .i64 a] wx (NumI src a (Znf src a) wx)) (λwx=>Zyf wx HBt.out HSP.out hs)
     clear hsp hkk
     cases hk:Zaq (src.drop a) with
     | none =>
      have HF:=hdQ (HT.out.bad HL.out HBt.out HSP.out hk)
      have hx:Znf src a=none:=by unfold Znf;rw [hk];rfl
      rw [hx] at HSC
      have HC:=qh (∀ wx,CL 240 #[str src,.int .i64 a] wx λe w'=>(∃ g,e=.returned (.tuple #[Zhi (0,[],0,0),.iface 210 (.pointer (some ⟨g,0,none⟩))])/\wx.heap.size<=g/\Own w' g 213 [.int .i64 a])/\Bw wx w') HSC.out
      clear hk hx HSC
      go_wp2_with (first|(go_at_call 239;refine (HKO.out _).mono ?_;rintro e w' ⟨rfl,rfl⟩)|fail)
      refine (HC.out _).mono ?_
      rintro e w1 ⟨⟨g,rfl,hg,ho⟩,hb1⟩
      have hz1:=hb1.size
      (try simp at hz1 hg)
      have hg2:=ho.lt
      have HB1:=qh (Bw w w1) (Below.step hb1 HB.out HB.out.size)
      have HO:=hdQ ho
      clear hb1 ho
      go_wp2_with fail
      go_ret2
      exact Zdu.no HF.out qo (owx HO.out) bll
     | some q =>
      obtain ⟨k,m,v⟩:=q
      have hm:=Zc7 hk
      rw [List.length_drop] at hm
      have HN:=hdQ (HT.out.tok HBt.out HSP.out hk)
      obtain ⟨u,hu⟩:=qv ((src.drop a).take m)
      have hul:u.length=m:=by rw [<- hu,List.length_take,List.length_drop];omega
      obtain ⟨E,hE⟩:=qv (a+m)
      have hx:Znf src a=some (k,u,(v:Int),(a:Int)):=by unfold Znf;rw [hk];simp only [Option.map_some];rw [hu]
      rw [hx] at HSC
      have HC:=qh (∀ wx,CR 240 #[str src,.int .i64 a] wx (.tuple #[Zhi (k,u,(v:Int),(a:Int)),.nilIface])) HSC.out
      rw [hu,hE] at HN
      have hE1:E<=src.length:=qo
      have hE2:a<E:=qo
      have hEi:(a:Int)+u.length=E:=qo
      have hEw:IntKind.i64.wrap ((a:Int)+u.length)=E:=by rw [hEi];exact IntWalk.i64_in _ qo
      have HNG:=qh (∀ x,x∈gOf A->x<wo.heap.size) (HG.out.lt)
      clear hk hu hE hm hx HSC hul
      go_wp2_with (first|(go_at_call 239;refine (HKO.out _).mono ?_;rintro e w' ⟨rfl,rfl⟩)|(go_at_call 240;refine (HC.out _).mono ?_;rintro e w1 ⟨rfl,hb1⟩;have hz1:=hb1.size;have HB1:=qh (Bw w w1) (Below.step hb1 HB.out HB.out.size);have HG1:=hdQ (Zaj.step hb1 HG.out);clear hb1)|(at_builtin;refine wpA (w.heap.size) Tryz.underlying94 T.infoToken (Zip l) (Zip [(k,u,(v:Int),(a:Int))]) (Zjv _) ?_ ?_ ?_;exact (gwx HG1.out);exact (ltt 1);rintro A' c' w2 gA;have g1:=gA.1;have g2:=gA.2.1;rw [Zh8] at g1;have HG2:=hdQ g1;have HB2:=qh (Bw w w2) (Below.trans bll g2);have hz2:=g2.size;have gf:=Za8.far gA (b:=w1.heap.size) (by simp;omega) (by intro hx;have:=HNG.out _ hx;omega);have c1:w2.cell? ⟨w1.heap.size,1,none⟩=some (str u):=(gf.1 1).trans qs;clear gA g1 g2 gf)|fail)
      go_roundw
      case rel=>exact ⟨E,_,_,_,hE1,rfl,by rw [List.length_append];rfl,HN.out,by rw [List.length_append];exact HG2.out,HB2.out⟩
      case measure=>exact qn
   ·obtain rfl:a=src.length:=by omega
    have HF:=hdQ (HT.out.done HL.out)
    go_wp2_with (first|(at_builtin;refine wpA (w.heap.size) Tryz.underlying94 T.infoToken (Zip l) (Zip [(0,[],0,(src.length:Int))]) (Zjv _) ?_ ?_ ?_;exact (gwx HG.out);exact (ltt 1);rintro A' c' w2 gA;have g1:=gA.1;have g2:=gA.2.1;rw [Zh8] at g1;have HG2:=hdQ g1;have HB2:=qh (Bw w w2) (Below.trans bll g2);clear gA g1 g2)|fail)
    go_ret2
    exact Zdu.yes HF.out (by rw [List.length_append];rfl) HG2.out HB2.out
end
end Go.Proofs.YticdknjoapdmeaaGreatDoor
