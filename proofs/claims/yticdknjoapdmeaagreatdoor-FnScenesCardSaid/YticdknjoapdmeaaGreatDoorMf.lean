/- Several texts in one: ParR, PriR, PriB, PriC, ParF, PriF. -/
import Derived.Test.YticdknjoapdmeaaGreatDoorMa
import Derived.Test.YticdknjoapdmeaaGreatDoorMe
import Derived.Deep.LoopGhost
import Derived.Recover
set_option linter.unusedVariables false
set_option linter.unusedSimpArgs false
set_option linter.unnecessarySimpa false
namespace Go.Proofs.YticdknjoapdmeaaGreatDoor
set_option maxHeartbeats 16000000
section
set_option maxRecDepth 100000
open Go.RowKit Go.Lib
structure TokK (Ts:List Zam):Prop where
 ok:TokOk Ts
 off:∀ i,0<=of_ Ts i
 len:Ts.length<=1048576
section
variable {w w' w1:World} {B base:Nat} {TA:OA} {tc:Nat} {Ts:List Zam} {AA:OA} {ac:Nat} {as_:List Zab} {X:List Nat} {NA NA1:OA} {nc:Nat} {ns:List Zac} {a:Nat} {bad:Int} {r:PR} {e:Ending}
theorem Za1.ownX {Y:List Nat} (h:Za1 w B base TA tc Ts AA ac as_ X a NA nc ns bad) (hb:Bw w w') (hY:∀ y,y∈Y->y<w'.heap.size/\(y∈X∨w.heap.size<=y)):Za1 w' B base TA tc Ts AA ac as_ Y a NA nc ns bad:=⟨h.1.step hb,h.2.own hb hY⟩
theorem Za1.fresh_ (h:Za1 w B base TA tc Ts AA ac as_ X a NA nc ns bad) (o:Obj):Za1 (w.alloc o) B base TA tc Ts AA ac as_ (gOf (some ⟨w.heap.size,0,none⟩)++X) a NA nc ns bad:=h.ownX ((Below.refl _ _).alloc (Nat.le_refl _) _) (λy hy=>by
  simp only [gOf,List.mem_append,List.mem_cons,List.not_mem_nil,or_false] at hy
  rcases hy with rfl|hy
  ·exact ⟨qs,.inr (Nat.le_refl _)⟩
  ·exact ⟨by have:=(h.2.xlt y hy).1;simp;omega,.inl hy⟩)
theorem PGo.ret (h:PGo B base TA tc Ts AA ac as_ X NA r w e w'):∃ v:Int,e=.returned (.int .i64 v):=by
 cases r with
 | ok v a ns=>obtain ⟨_,_,rfl,_⟩:=h;exact ⟨_,rfl⟩
 | bad o=>obtain ⟨_,_,_,_,_,rfl,_⟩:=h;exact ⟨_,rfl⟩
 | out=>exact h.elim
theorem PGo.comp (h1:Only w.heap.size (B::gOf NA) w w1) (hs:∀ x,x∈gOf NA1->x∈gOf NA∨w.heap.size<=x) (h:PGo B base TA tc Ts AA ac as_ X NA1 r w1 e w'):PGo B base TA tc Ts AA ac as_ X NA r w e w':=by
 have hsub:∀ x,x∈B::gOf NA1->x∈B::gOf NA∨w.heap.size<=x:=λx hx=>by
  rcases List.mem_cons.1 hx with rfl|hx
  ·exact .inl qs
  ·exact (hs x hx).imp (λq=>List.mem_cons_of_mem _ q) id
 cases r with
 | ok v a ns =>
  obtain ⟨NA',nc',rfl,h2,h3,h4⟩:=h
  refine ⟨NA',nc',rfl,h2,h1.sub h3 h1.size hsub,λx hx=>?_⟩
  rcases h4 x hx with q|q
  ·exact hs x q
  ·exact .inr (Nat.le_trans h1.size q)
 | bad o =>
  obtain ⟨r,c0,c1,c2,c3,rfl,h2,h3,h4⟩:=h
  exact ⟨r,c0,c1,c2,c3,rfl,h2,h3,h1.sub h4 h1.size hsub⟩
 | out=>exact h.elim
theorem PGo.after {w0 w2:World} {NA0 NA2:OA} (h0:Only w0.heap.size (B::gOf NA0) w0 w) (hs:∀ x,x∈gOf NA->x∈gOf NA0∨w0.heap.size<=x) (h1:Only w.heap.size (B::gOf NA) w w2) (hs1:∀ x,x∈gOf NA2->x∈gOf NA∨w.heap.size<=x) (o:Obj) :
  Only w0.heap.size (B::gOf NA0) w0 (w2.alloc o)/\(∀ x,x∈gOf NA2->x∈gOf NA0∨w0.heap.size<=x):=by
 have h2:Only w0.heap.size (B::gOf NA0) w0 w2:=h0.sub h1 h0.size (λx hx=>by
  rcases List.mem_cons.1 hx with rfl|hx
  ·exact .inl qs
  ·exact (hs x hx).imp (λq=>List.mem_cons_of_mem _ q) id)
 refine ⟨h2.al h2.size o,λx hx=>?_⟩
 rcases hs1 x hx with q|q
 ·exact hs x q
 ·exact .inr (Nat.le_trans h0.size q)
end
structure SPc (B base:Nat) (TA:OA) (tc:Nat) (Ts:List Zam) (AA:OA) (ac:Nat) (as_:List Zab) (n:Nat):Prop where
 bin:∀ (add:Bool) (d a:Nat) (X:List Nat) (NA:OA) (nc:Nat) (ns:List Zac) (w:World),Za1 w B base TA tc Ts AA ac as_ X a NA nc ns (-1)->a<Ts.length->d<=65->mu (.bin add)+4*(Ts.length-a)<=n ->
  CL 122 #[.pointer (some ⟨B,0,none⟩),.int .i64 d,.bool add] w (PGo B base TA tc Ts AA ac as_ X NA (prs Ts n (.bin add) d a ns) w)
 fac:∀ (d a:Nat) (X:List Nat) (NA:OA) (nc:Nat) (ns:List Zac) (w:World),Za1 w B base TA tc Ts AA ac as_ X a NA nc ns (-1)->a<Ts.length->d<=65->1+4*(Ts.length-a)<=n ->
  CL 227 #[.pointer (some ⟨B,0,none⟩),.int .i64 d] w (PGo B base TA tc Ts AA ac as_ X NA (prs Ts n .fac d a ns) w)
 cal:∀ (name:List UInt8) (d a:Nat) (X:List Nat) (NA:OA) (nc:Nat) (ns:List Zac) (w:World),Za1 w B base TA tc Ts AA ac as_ X a NA nc ns (-1)->a<Ts.length->d<=65->4+4*(Ts.length-a)<=n ->
  CL 264 #[.pointer (some ⟨B,0,none⟩),str name,.int .i64 d] w (PGo B base TA tc Ts AA ac as_ X NA (prs Ts n (.args name []) d a ns) w)
theorem Zqd {B base:Nat} {TA:OA} {tc:Nat} {Ts:List Zam} {AA:OA} {ac:Nat} {as_:List Zab} {n:Nat} (ih:SPc B base TA tc Ts AA ac as_ n) (add:Bool) {d a:Nat} {X:List Nat} {NA:OA} {nc:Nat} {ns:List Zac} (w:World)
  (h:Za1 w B base TA tc Ts AA ac as_ X a NA nc ns (-1)) (ha:a<Ts.length) (hd:d<=65) (hn:mu (opd add)+4*(Ts.length-a)<=n) :
  CL 174 #[.pointer (some ⟨B,0,none⟩),.int .i64 d,.bool add] w (PGo B base TA tc Ts AA ac as_ X NA (prs Ts n (opd add) d a ns) w):=by
 cases add with
 | true =>
  have HC:=hdQ (ih.bin false d a X NA nc ns w h ha hd hn)
  clear h ih hn
  show CL 174 _ w (PGo B base TA tc Ts AA ac as_ X NA (prs Ts n (.bin false) d a ns) w)
  generalize prs Ts n (.bin false) d a ns=r at *
  go_enter Tryz.func174,Tryz.ntmps174
  go_wp2_with (first|(go_at_call 122;refine HC.out.mono ?_;rintro e w1 hg;obtain ⟨v,rfl⟩:=hg.ret;have HG:=hdQ hg;clear hg)|fail)
  go_ret
  exact HG.out
 | false =>
  have HC:=hdQ (ih.fac d a X NA nc ns w h ha hd hn)
  clear h ih hn
  show CL 174 _ w (PGo B base TA tc Ts AA ac as_ X NA (prs Ts n .fac d a ns) w)
  generalize prs Ts n .fac d a ns=r at *
  go_enter Tryz.func174,Tryz.ntmps174
  go_wp2_with (first|(go_at_call 227;refine HC.out.mono ?_;rintro e w1 hg;obtain ⟨v,rfl⟩:=hg.ret;have HG:=hdQ hg;clear hg)|fail)
  go_ret
  exact HG.out
theorem Zep {B base:Nat} {TA:OA} {tc:Nat} {Ts:List Zam} {AA:OA} {ac:Nat} {as_:List Zab} {n:Nat} (ih:SPc B base TA tc Ts AA ac as_ n) {d a:Nat} {X:List Nat} {NA:OA} {nc:Nat} {ns:List Zac} (w:World)
  (h:Za1 w B base TA tc Ts AA ac as_ X a NA nc ns (-1)) (ha:a<Ts.length) (hd:d<=65) (hn:3+4*(Ts.length-a)<=n) :
  CL 62 #[.pointer (some ⟨B,0,none⟩),.int .i64 d] w (PGo B base TA tc Ts AA ac as_ X NA (prs Ts n (.bin true) d a ns) w):=by
 have HC:=hdQ (ih.bin true d a X NA nc ns w h ha hd hn)
 clear h ih hn
 generalize prs Ts n (.bin true) d a ns=r at *
 go_enter Tryz.func62,Tryz.ntmps62
 go_wp2_with (first|(go_at_call 122;refine HC.out.mono ?_;rintro e w1 hg;obtain ⟨v,rfl⟩:=hg.ret;have HG:=hdQ hg;clear hg)|fail)
 go_ret
 exact HG.out
def Zyp (B base:Nat) (TA:OA) (tc:Nat) (Ts:List Zam) (AA:OA) (ac:Nat) (as_:List Zab) (X:List Nat) (NA:OA) (n d:Nat) (add:Bool) (R:PR) (w:World) (k:Nat) (v:Int) (wr:World):Prop :=
 (∃ (a1:Nat) (NA1:OA) (nc1:Nat) (n1:List Zac) (f:Nat),Za1 wr B base TA tc Ts AA ac as_ X a1 NA1 nc1 n1 (-1)/\a1<Ts.length/\4+4*(Ts.length-a1)<=f/\f<=n/\f<=k/\prs Ts f (.loop add v) d a1 n1=R/\Only w.heap.size (B::gOf NA) w wr/\(∀ x,x∈gOf NA1->x∈gOf NA∨w.heap.size<=x)) ∨
 (∃ (o:Int) (c0 c1 c2 c3:Value),R=.bad o/\0<=o/\Own wr B 99 [c0,c1,c2,c3,.int .i64 o]/\Only w.heap.size (B::gOf NA) w wr)
theorem Zpb {T:List Zam} {n:Nat} {add:Bool} {v:Int} {d a:Nat} {ns:List Zac} (h:opS add (pk T a)=0):prs T (n+1) (.loop add v) d a ns=.ok v a ns:=by rw [prs,if_pos h]
theorem Zkg {T:List Zam} {n:Nat} {add:Bool} {v b:Int} {d a a1:Nat} {ns n1:List Zac} (h:opS add (pk T a)≠0) (hr:prs T n (opd add) d (a+1) ns=.ok b a1 n1) :
  prs T (n+1) (.loop add v) d a ns=match emit T (opS add (pk T a),[],0,[v,b]) a1 n1 with | .ok u a2 n2=>prs T n (.loop add u) d a2 n2 | .bad o=>.bad o | .out=>.out:=by rw [prs,if_neg h,hr];rfl
theorem Zkf {T:List Zam} {n:Nat} {add:Bool} {v o:Int} {d a:Nat} {ns:List Zac} (h:opS add (pk T a)≠0) (hr:prs T n (opd add) d (a+1) ns=.bad o):prs T (n+1) (.loop add v) d a ns=.bad o:=by rw [prs,if_neg h,hr]
theorem Zs2 {T:List Zam} {n:Nat} {add:Bool} {v:Int} {d a a1:Nat} {ns n1:List Zac} (hr:prs T n (opd add) d a ns=.ok v a1 n1):prs T (n+1) (.bin add) d a ns=prs T n (.loop add v) d a1 n1:=by rw [prs,hr]
theorem Zs1 {T:List Zam} {n:Nat} {add:Bool} {o:Int} {d a:Nat} {ns:List Zac} (hr:prs T n (opd add) d a ns=.bad o):prs T (n+1) (.bin add) d a ns=.bad o:=by rw [prs,hr]
theorem Zxc (add:Bool):mu (opd add)+1=mu (.bin add)/\mu (opd add)<=2/\1<=mu (opd add):=by cases add<;>exact ⟨rfl,qd,qd⟩
theorem Zo3 (add:Bool):st (opd add)=1:=by cases add<;>rfl
theorem Zrt {B base:Nat} {TA:OA} {tc:Nat} {Ts:List Zam} {AA:OA} {ac:Nat} {as_:List Zab} {n:Nat} (hk:TokK Ts) (ih:∀ m,m<n->SPc B base TA tc Ts AA ac as_ m) (add:Bool) {d a:Nat} {X:List Nat} {NA:OA} {nc:Nat} {ns:List Zac} (w:World)
  (h:Za1 w B base TA tc Ts AA ac as_ X a NA nc ns (-1)) (ha:a<Ts.length) (hd:d<=65) (hn:mu (.bin add)+4*(Ts.length-a)<=n) :
  CL 122 #[.pointer (some ⟨B,0,none⟩),.int .i64 d,.bool add] w (PGo B base TA tc Ts AA ac as_ X NA (prs Ts n (.bin add) d a ns) w):=by
 obtain ⟨h1,h2,h3⟩:=Zxc add
 obtain ⟨k,rfl⟩:∃ k,n=k+1:=⟨n-1,qo⟩
 have HOP:=qh (∀ f,f<=k->∀ (a:Nat) (NA:OA) (nc:Nat) (ns:List Zac) (wx:World),Za1 wx B base TA tc Ts AA ac as_ X a NA nc ns (-1)->a<Ts.length->mu (opd add)+4*(Ts.length-a)<=f ->
   CL 174 #[.pointer (some ⟨B,0,none⟩),.int .i64 d,.bool add] wx (PGo B base TA tc Ts AA ac as_ X NA (prs Ts f (opd add) d a ns) wx)) (λf hf a NA nc ns wx hx hax hnx=>Zqd (ih f qo) add wx hx hax hd hnx)
 have hE:=Zbq hk.ok k (opd add) d a ns ha qo
 have HIN:=qh (∀ x,x∈gOf NA->x∈gOf NA∨w.heap.size<=x) (λx hx=>.inl hx)
 have HC:=HOP.out k (Nat.le_refl _) a NA nc ns w h ha qo
 obtain ⟨R,hR⟩:=qv (prs Ts (k+1) (.bin add) d a ns)
 have HST:=qh (∀ e w1,PGo B base TA tc Ts AA ac as_ X NA (prs Ts k (opd add) d a ns) w e w1->∃ v:Int,e=.returned (.int .i64 v)/\Zyp B base TA tc Ts AA ac as_ X NA k d add R w k v w1) (λe w1 hg=>by
  cases hr:prs Ts k (opd add) d a ns with
  | out=>exact absurd hr hE.1
  | bad o =>
   rw [hr] at hg
   obtain ⟨r,c0,c1,c2,c3,rfl,q1,q2,q3⟩:=hg
   exact ⟨r,rfl,.inr ⟨o,c0,c1,c2,c3,by rw [<- hR,Zs1 hr],q2,q1,q3⟩⟩
  | ok v a1 n1 =>
   rw [hr] at hg
   obtain ⟨NA',nc',rfl,q1,q2,q3⟩:=hg
   have h5:=hE.2 v a1 n1 hr
   rw [Zo3] at h5
   exact ⟨v,rfl,.inl ⟨a1,NA',nc',n1,k,q1,h5.2,qo,Nat.le_refl _,Nat.le_refl _,by rw [<- hR,Zs2 hr],q2,q3⟩⟩)
 rw [hR]
 generalize prs Ts k (opd add) d a ns=r0 at *
 clear hE h hn hR
 go_enter Tryz.func122,Tryz.ntmps122
 go_wp2_with (first|(go_at_call 174;refine HC.mono ?_;rintro e w1 hg;obtain ⟨v,rfl,hv⟩:=HST.out _ _ hg;have HV:=hdQ hv;clear hg hv HC)|fail)
 go_loopg [7,8,9] k (λg p _ _ wr=>∃ v:Int,p=.int .i64 v/\Zyp B base TA tc Ts AA ac as_ X NA k d add R w g v wr)
 case atStart=>exact ⟨v,rfl,HV.out⟩
 case round =>
  obtain ⟨v',rfl,hinv⟩:=hrel
  obtain ⟨wo,rfl⟩:=qe wr
  clear HV
  rcases hinv with ⟨a1,NA1,nc1,n1,f,hst,ha1,hf1,hf2,hf3,hR,hO,hS⟩|⟨o,c0,c1,c2,c3,rfl,ho,hw,hO⟩
  ·obtain ⟨f',rfl⟩:∃ f',f=f'+1:=⟨f-1,qo⟩
   have HPK:=hdQ (Zdl wo hst ha1)
   obtain ⟨hB,_,c1,_,_,c4,cf⟩:=hst.cells
   have HS:=hdQ hst
   have HO:=hdQ hO
   have HSb:=hdQ hS
   have hOz:=hO.size
   obtain ⟨q,hq⟩:=qv (opS add (pk Ts a1))
   have HOPc:=qh (∀ wx,CL 175 #[str (pk Ts a1),.bool add] wx λe w'=>e=.returned (.int .i64 q)/\wx=w') (λwx=>by have:=S_l13Op (pk Ts a1) add wx;rw [hq] at this;exact this)
   have hin:=λ(h0:q≠0)=>Zdg hk.ok ha1 (opS_ne (add:=add) (x:=pk Ts a1) (by rw [hq];exact h0))
   clear hst hO hS
   by_cases hq0:q=0
   ·rw [Zpb (by rw [hq,hq0])] at hR
    subst hR
    subst hq0
    clear hq hin
    generalize pk Ts a1=y at *
    go_wp2_with (first|(go_at_call 121;refine HPK.out.mono ?_;rintro e w1 ⟨rfl,hb1⟩;have HS1:=hdQ (HS.out.step hb1);have HO1:=qh (Only w.heap.size (B::gOf NA) w w1) (HO.out.sub (Only.of_below hb1 []) hOz (λx hx=>by cases hx));clear hb1)|(go_at_call 175;refine (HOPc.out _).mono ?_;rintro e w' ⟨rfl,rfl⟩)|fail)
    go_ret
    exact ⟨NA1,nc1,rfl,HS1.out,HO1.out,HSb.out⟩
   ·have hin1:=hin hq0
    have hq0':(q==0)=false:=by simpa using hq0
    have hE:=Zbq hk.ok f' (opd add) d (a1+1) n1 hin1 qo
    have HOPR:=qh (∀ wx,Za1 wx B base TA tc Ts AA ac as_ X (a1+1) NA1 nc1 n1 (-1)->CL 174 #[.pointer (some ⟨B,0,none⟩),.int .i64 d,.bool add] wx (PGo B base TA tc Ts AA ac as_ X NA1 (prs Ts f' (opd add) d (a1+1) n1) wx)) (λwx hx=>HOP.out f' qo (a1+1) NA1 nc1 n1 wx hx hin1 qo)
    have ha1s:=hk.len
    cases hr:prs Ts f' (opd add) d (a1+1) n1 with
    | out=>exact absurd hr hE.1
    | bad o =>
     rw [Zkf (by rw [hq];exact hq0) hr] at hR
     subst hR
     rw [hr] at HOPR
     clear hr hE hq hin hq0
     generalize pk Ts a1=y at *
     go_wp2_with (first|(go_at_call 121;refine HPK.out.mono ?_;rintro e w1 ⟨rfl,hb1⟩;have HS1:=hdQ (HS.out.step hb1);have HO1:=qh (Only w.heap.size (B::gOf NA) w w1) (HO.out.sub (Only.of_below hb1 []) hOz (λx hx=>by cases hx));have d1:=HS1.out.cells.2.2.1;have df:=HS1.out.cells.2.2.2.2.2.2;have dB:=HS1.out.cells.1;have HSA:=qh (Za1 (w1.setCell ⟨B,1,none⟩ (.int .i64 ((a1:Int)+1))) B base TA tc Ts AA ac as_ X (a1+1) NA1 nc1 n1 (-1)) (by have:=HS1.out.setAt (a1+1);simpa using this);clear hb1)|(go_at_call 175;refine (HOPc.out _).mono ?_;rintro e w' ⟨rfl,rfl⟩)|(go_at_call 174;refine (HOPR.out _ HSA.out).mono ?_;rintro e w2 ⟨r,b0,b1,b2,b3,rfl,hw2,ho2,hO2⟩;have HW2:=hdQ hw2;have HO2:=hdQ hO2;have g4:=hw2.cell 4;(try dsimp only [List.getElem?_cons_succ,List.getElem?_cons_zero] at g4);clear hw2 hO2)|fail)
     go_ret
     refine ⟨0,b0,b1,b2,b3,rfl,HW2.out,ho2, ?_⟩
     refine (HO1.out.setCell (p:=⟨B,1,none⟩) qs _).sub HO2.out (by have:=HO1.out.size;simpa using this) (λx hx=>?_)
     rcases List.mem_cons.1 hx with rfl|hx
     ·exact .inl qs
     ·exact (HSb.out x hx).imp (λq=>List.mem_cons_of_mem _ q) id
    | ok b a2 n2 =>
     have hR2:=Zkg (v:=v') (by rw [hq];exact hq0) hr
     rw [hR] at hR2
     rw [hr] at HOPR
     have h6:=hE.2 b a2 n2 hr
     rw [Zo3] at h6
     have HEM:=qh (∀ (wx:World) (NA2:OA) (nc2:Nat),Za1 wx B base TA tc Ts AA ac as_ X a2 NA2 nc2 n2 (-1)->CL 176 #[.pointer (some ⟨B,0,none⟩),Zhn q [] 0 (.slice (some ⟨wx.heap.size,0,none⟩) 2 2)] (wx.alloc (.cells #[.int .i64 v',.int .i64 b] 3)) (PGo B base TA tc Ts AA ac as_ X NA2 (emit Ts (q,[],0,[v',b]) a2 n2) (wx.alloc (.cells #[.int .i64 v',.int .i64 b] 3)))) (λwx NA2 nc2 hx =>
      Zgp (args:=[v',b]) _ (hx.fresh_ _) qo h6.2 hk.len hk.off (Zdb.some_ (Own.new wx 3 #[.int .i64 v',.int .i64 b]) rfl qs) (λy hy=>by
       obtain rfl:y=wx.heap.size:=by simpa [gOf] using hy
       exact λq=>by have:=(hx.2.xlt _ q).1;omega))
     have HNX:=qh (∀ (wx:World) (NA2:OA) (e:Ending) (w3:World),Only w.heap.size (B::gOf NA) w wx->(∀ x,x∈gOf NA2->x∈gOf NA∨w.heap.size<=x)->PGo B base TA tc Ts AA ac as_ X NA2 (emit Ts (q,[],0,[v',b]) a2 n2) wx e w3->∃ v:Int,e=.returned (.int .i64 v)/\Zyp B base TA tc Ts AA ac as_ X NA k d add R w (gk-1) v w3) (λwx NA2 e w3 hO2 hS2 hg=>by
      have hg':=hg.comp hO2 hS2
      cases he:emit Ts (q,[],0,[v',b]) a2 n2 with
      | out=>rw [he] at hg;exact hg.elim
      | bad o =>
       rw [he] at hg'
       obtain ⟨r,c0,c1,c2,c3,rfl,q1,q2,q3⟩:=hg'
       rw [hq,he] at hR2
       exact ⟨r,rfl,.inr ⟨o,c0,c1,c2,c3,hR2,q2,q1,q3⟩⟩
      | ok u a3 n3 =>
       obtain ⟨rfl,_⟩:=Zhs he
       rw [he] at hg'
       obtain ⟨NA',nc',rfl,q1,q2,q3⟩:=hg'
       rw [hq,he] at hR2
       exact ⟨u,rfl,.inl ⟨a3,NA',nc',n3,f',q1,h6.2,qo,qo,qo,hR2.symm,q2,q3⟩⟩)
     clear hr hE hq hin hq0 hR hR2
     generalize emit Ts (q,[],0,[v',b]) a2 n2=r2 at *
     generalize pk Ts a1=y at *
     go_wp2_with (first|(go_at_call 121;refine HPK.out.mono ?_;rintro e w1 ⟨rfl,hb1⟩;have HS1:=hdQ (HS.out.step hb1);have HO1:=qh (Only w.heap.size (B::gOf NA) w w1) (HO.out.sub (Only.of_below hb1 []) hOz (λx hx=>by cases hx));have d1:=HS1.out.cells.2.2.1;have df:=HS1.out.cells.2.2.2.2.2.2;have dB:=HS1.out.cells.1;have HSA:=qh (Za1 (w1.setCell ⟨B,1,none⟩ (.int .i64 ((a1:Int)+1))) B base TA tc Ts AA ac as_ X (a1+1) NA1 nc1 n1 (-1)) (by have:=HS1.out.setAt (a1+1);simpa using this);clear hb1)|(go_at_call 175;refine (HOPc.out _).mono ?_;rintro e w' ⟨rfl,rfl⟩)|(go_at_call 174;refine (HOPR.out _ HSA.out).mono ?_;rintro e w2 ⟨NA2,nc2,rfl,hs2,hO2,hS2⟩;have g4:=hs2.cells.2.2.2.2.2.1;have HS2:=hdQ hs2;have HOS:=qh (Only w.heap.size (B::gOf NA) w (w2.alloc (.cells #[.int .i64 v',.int .i64 b] 3))/\(∀ x,x∈gOf NA2->x∈gOf NA∨w.heap.size<=x)) (PGo.after (HO1.out.setCell (p:=⟨B,1,none⟩) qs _) HSb.out hO2 hS2 _);clear hs2 hO2 hS2)|(go_at_call 176;refine (HEM.out _ _ _ HS2.out).mono ?_;rintro e w3 hg;obtain ⟨v3,rfl,hv3⟩:=HNX.out _ _ _ _ HOS.out.1 HOS.out.2 hg;have HV3:=hdQ hv3;clear hg hv3)|fail)
     go_roundg (gk-1)
     case measure=>omega
     case rel=>exact ⟨v3,rfl,HV3.out⟩
  ·have g4:wo.cell? ⟨B,4,none⟩=some (.int .i64 o):=hw.cell 4
   have HW:=hdQ hw
   have HO:=hdQ hO
   have ho':¬ o<0:=qo
   clear hw hO
   go_wp2_with fail
   go_ret
   exact ⟨v',c0,c1,c2,c3,rfl,HW.out,ho,HO.out⟩
section
variable {w w':World} {B base:Nat} {TA:OA} {tc:Nat} {Ts:List Zam} {AA:OA} {ac:Nat} {as_:List Zab} {X:List Nat} {NA NA1:OA} {nc:Nat} {ns:List Zac} {a:Nat} {bad:Int}
theorem Za1.app {e:TypeId} {size n n' c' base':Nat} {xs:List Value} {PA PA':OA} (h:Za1 w B base TA tc Ts AA ac as_ (gOf PA++X) a NA nc ns bad) (ap:Za8 w base' e size PA n xs PA' n' c' w'):Za1 w' B base TA tc Ts AA ac as_ (gOf PA'++X) a NA nc ns bad :=
 ⟨(ap.2.2.1.block B h.1.lt (by have:=h.2.xlt B;cases PA<;>simp_all [gOf])).trans h.1,h.2.app ap⟩
theorem Za1.apart {Z:List Nat} (h:Za1 w B base TA tc Ts AA ac as_ (Z++X) a NA nc ns bad) {y:Nat} (hy:y∈Z) (hX:y∉X):y∉B::(gOf NA++gOf AA++X):=by
 simp only [List.mem_cons,List.mem_append,not_or]
 exact ⟨(h.2.xlt y (by simp [hy])).2,⟨λq=>(h.2.apN y q).2.2 (by simp [hy]),λq=>(h.2.apA y q).2 (by simp [hy])⟩,hX⟩
theorem Only.app {w0:World} {G:List Nat} {e:TypeId} {size n n' c' base':Nat} {xs:List Value} {PA PA':OA} (h:Only w0.heap.size G w0 w) (ap:Za8 w base' e size PA n xs PA' n' c' w') (hP:∀ x,x∈gOf PA->w0.heap.size<=x):Only w0.heap.size G w0 w' :=
 ⟨ap.2.1.os.trans h.os,ap.2.1.tape.trans h.tape,ap.2.1.output.trans h.output,Nat.le_trans h.size ap.2.2.2.1,λy hy hG=>(ap.2.2.1.block y (Nat.lt_of_lt_of_le hy h.size) (by cases PA with|none=>simp|some ad=>(have:=hP ad.block (by simp [gOf]);simp;omega))).trans (h.block y hy hG)⟩
end
def Zsg (B base:Nat) (TA:OA) (tc:Nat) (Ts:List Zam) (AA:OA) (ac:Nat) (as_:List Zab) (X:List Nat) (NA:OA) (n d:Nat) (name:List UInt8) (R:PR) (w:World) (k:Nat) (l:List Int) (PA:OA) (pc:Nat) (wr:World):Prop :=
 ∃ (a1:Nat) (NA1:OA) (nc1:Nat) (n1:List Zac) (f:Nat),Za1 wr B base TA tc Ts AA ac as_ (gOf PA++X) a1 NA1 nc1 n1 (-1)/\a1<Ts.length/\4+4*(Ts.length-a1)<=f/\f<=n/\f<=k/\prs Ts f (.args name l) d a1 n1=R/\¬ (l=[]/\pk Ts a1=[41])/\l.length<=3 /\
  Zaj wr w.heap.size 3 1 PA l.length pc (ints l)/\Only w.heap.size (B::gOf NA) w wr/\(∀ x,x∈gOf NA1->x∈gOf NA∨w.heap.size<=x)
theorem Zpd {T:List Zam} {n:Nat} {name:List UInt8} {d a:Nat} {ns:List Zac} (h:pk T a=[41]):prs T (n+1) (.args name []) d a ns=emit T (8,name,0,[]) (a+1) ns:=by rw [prs,if_pos ⟨rfl,h⟩]
theorem Zpc {T:List Zam} {n:Nat} {name:List UInt8} {l:List Int} {d a:Nat} {ns:List Zac} (h:¬ (l=[]/\pk T a=[41])) (hl:l.length=3):prs T (n+1) (.args name l) d a ns=.bad (of_ T a):=by rw [prs,if_neg h,if_pos hl]
theorem Zkk {T:List Zam} {n:Nat} {name:List UInt8} {l:List Int} {d a:Nat} {ns:List Zac} {o:Int} (h:¬ (l=[]/\pk T a=[41])) (hl:l.length≠3) (hr:prs T n (.bin true) d a ns=.bad o):prs T (n+1) (.args name l) d a ns=.bad o:=by rw [prs,if_neg h,if_neg hl,hr]
theorem Zki {T:List Zam} {n:Nat} {name:List UInt8} {l:List Int} {d a a1:Nat} {ns n1:List Zac} {v:Int} (h:¬ (l=[]/\pk T a=[41])) (hl:l.length≠3) (hr:prs T n (.bin true) d a ns=.ok v a1 n1) (hp:pk T a1=[44]):prs T (n+1) (.args name l) d a ns=prs T n (.args name (l++[v])) d (a1+1) n1:=by rw [prs,if_neg h,if_neg hl,hr];simp only [hp,if_true]
theorem Zkj {T:List Zam} {n:Nat} {name:List UInt8} {l:List Int} {d a a1:Nat} {ns n1:List Zac} {v:Int} (h:¬ (l=[]/\pk T a=[41])) (hl:l.length≠3) (hr:prs T n (.bin true) d a ns=.ok v a1 n1) (hp:pk T a1≠[44]) (hq:pk T a1=[41]):prs T (n+1) (.args name l) d a ns=emit T (8,name,0,l++[v]) (a1+1) n1:=by rw [prs,if_neg h,if_neg hl,hr];simp only [if_neg hp,if_pos hq]
theorem Zkh {T:List Zam} {n:Nat} {name:List UInt8} {l:List Int} {d a a1:Nat} {ns n1:List Zac} {v:Int} (h:¬ (l=[]/\pk T a=[41])) (hl:l.length≠3) (hr:prs T n (.bin true) d a ns=.ok v a1 n1) (hp:pk T a1≠[44]) (hq:pk T a1≠[41]):prs T (n+1) (.args name l) d a ns=.bad (of_ T a1):=by rw [prs,if_neg h,if_neg hl,hr];simp only [if_neg hp,if_neg hq]
theorem Zx7 {B base:Nat} {TA:OA} {tc:Nat} {Ts:List Zam} {AA:OA} {ac:Nat} {as_:List Zab} {n:Nat} (hk:TokK Ts) (ih:∀ m,m<n->SPc B base TA tc Ts AA ac as_ m) (name:List UInt8) {d a:Nat} {X:List Nat} {NA:OA} {nc:Nat} {ns:List Zac} (w:World)
  (h:Za1 w B base TA tc Ts AA ac as_ X a NA nc ns (-1)) (ha:a<Ts.length) (hd:d<=65) (hn:4+4*(Ts.length-a)<=n) :
  CL 264 #[.pointer (some ⟨B,0,none⟩),str name,.int .i64 d] w (PGo B base TA tc Ts AA ac as_ X NA (prs Ts n (.args name []) d a ns) w):=by
 have hlen:=hk.len
 have hX0:=λx hx=>(h.2.xlt x hx).1
 have HXP:=qh (∀ (wx:World) (a1:Nat) (NA1:OA) (nc1:Nat) (n1:List Zac) (Y:List Nat),Za1 wx B base TA tc Ts AA ac as_ Y a1 NA1 nc1 n1 (-1)->a1<Ts.length->CL 61 #[.pointer (some ⟨B,0,none⟩),.string ⟨#[41]⟩] wx (Zyd B base TA tc Ts AA ac as_ Y a1 NA1 nc1 n1 (decide (pk Ts a1=[41])) wx)) (λwx a1 NA1 nc1 n1 Y hx h1=>Zf2 [41] wx hx h1 hlen)
 have HEM:=qh (∀ (wx:World) (a1:Nat) (NA1:OA) (nc1:Nat) (n1:List Zac) (l:List Int) (PA:OA) (pc:Nat),Za1 wx B base TA tc Ts AA ac as_ (gOf PA++X) (a1+1) NA1 nc1 n1 (-1)->a1+1<Ts.length->Zdb wx 1 PA l.length pc 3 (ints l)->(∀ y,y∈gOf PA->w.heap.size<=y) ->
   CL 176 #[.pointer (some ⟨B,0,none⟩),Zhn 8 name 0 (.slice PA l.length pc)] wx (PGo B base TA tc Ts AA ac as_ X NA1 (emit Ts (8,name,0,l) (a1+1) n1) wx)) (λwx a1 NA1 nc1 n1 l PA pc hx h1 hr hg=>Zgp wx hx qo h1 hlen hk.off hr (λy hy q=>by have:=hX0 y q;have:=hg y hy;omega))
 obtain ⟨k,rfl⟩:∃ k,n=k+1:=⟨n-1,qo⟩
 have HPK:=qh (∀ (wx:World) (a1:Nat) (NA1:OA) (nc1:Nat) (n1:List Zac) (Y:List Nat),Za1 wx B base TA tc Ts AA ac as_ Y a1 NA1 nc1 n1 (-1)->a1<Ts.length->CR 121 #[.pointer (some ⟨B,0,none⟩)] wx (str (pk Ts a1))) (λwx a1 NA1 nc1 n1 Y hx h1=>Zdl wx hx h1)
 have HS:=hdQ h
 have hB:=h.1.lt
 have HSA:=qh (Za1 (w.alloc (.cells #[] 3)) B base TA tc Ts AA ac as_ (gOf (some ⟨w.heap.size,0,none⟩)++X) a NA nc ns (-1)) (h.ownX ((Below.refl _ _).alloc (Nat.le_refl _) _) (λy hy=>by
  simp only [gOf,List.mem_append,List.mem_cons,List.not_mem_nil,or_false] at hy
  rcases hy with rfl|hy
  ·exact ⟨qs,.inr (Nat.le_refl _)⟩
  ·exact ⟨by have:=hX0 y hy;simp;omega,.inl hy⟩))
 have HG0:=qh (Zaj (w.alloc (.cells #[] 3)) w.heap.size 3 1 (some ⟨w.heap.size,0,none⟩) 0 0 (ints [])) (Zaj.lit w #[] 0 rfl (Nat.le_refl _) (Nat.zero_le _))
 clear h
 by_cases hp:pk Ts a=[41]
 ·have hin:=Zdg hk.ok ha (by rw [hp];simp)
  have HE:=hdQ (Zpd (n:=k) (name:=name) (d:=d) (ns:=ns) hp)
  have HPKa:=hdQ (HPK.out _ a NA nc ns _ HSA.out ha)
  have HXPa:=qh (∀ (wx:World),Za1 wx B base TA tc Ts AA ac as_ (gOf (some ⟨w.heap.size,0,none⟩)++X) a NA nc ns (-1)->CL 61 #[.pointer (some ⟨B,0,none⟩),.string ⟨#[41]⟩] wx (Zyd B base TA tc Ts AA ac as_ (gOf (some ⟨w.heap.size,0,none⟩)++X) a NA nc ns true wx)) (λwx hx=>by have:=HXP.out wx a NA nc ns _ hx ha;rw [hp] at this;exact this)
  have HEMa:=qh (∀ (wx:World),Za1 wx B base TA tc Ts AA ac as_ (gOf (some ⟨w.heap.size,0,none⟩)++X) (a+1) NA nc ns (-1)->Zaj wx w.heap.size 3 1 (some ⟨w.heap.size,0,none⟩) 0 0 (ints [])->CL 176 #[.pointer (some ⟨B,0,none⟩),Zhn 8 name 0 (.slice (some ⟨w.heap.size,0,none⟩) 0 0)] wx (PGo B base TA tc Ts AA ac as_ X NA (emit Ts (8,name,0,[]) (a+1) ns) wx)) (λwx hx hg=>HEM.out wx a NA nc ns [] _ 0 hx hin hg.ownS hg.ge)
  rw [hp] at HPKa
  rw [HE.out]
  clear HPK HXP HEM hp
  generalize emit Ts (8,name,0,[]) (a+1) ns=r at *
  go_enter Tryz.func264,Tryz.ntmps264
  go_wp2_with (first|(go_at_call 121;refine HPKa.out.mono ?_;rintro e w1 ⟨rfl,hb1⟩;have HS1:=hdQ (HSA.out.step hb1);have HG1:=hdQ (HG0.out.step hb1);have HO1:=qh (Only w.heap.size (B::gOf NA) w w1) (Only.of_below (bst hb1) _);clear hb1)|(go_at_call 61;refine (HXPa.out _ HS1.out).mono ?_;rintro e w2 ⟨rfl,hO2,hs2,_⟩;have HS2:=hdQ (hs2 rfl);have HG2:=hdQ (HG1.out.only hO2 (λx hx=>⟨HG1.out.lt x hx,λr=>by simp at r;exact (HS1.out.2.xlt x (by simp [hx])).2 r⟩));have HO2:=qh (Only w.heap.size (B::gOf NA) w w2) (HO1.out.sub hO2 HO1.out.size (λx hx=>.inl (by simp at hx;simp [hx])));clear hO2 hs2)|(go_at_call 176;refine (HEMa.out _ HS2.out HG2.out).mono ?_;rintro e w3 hg;obtain ⟨v,rfl⟩:=hg.ret;have HG:=hdQ (hg.comp HO2.out (λx hx=>.inl hx));clear hg)|fail)
  go_ret
  exact HG.out
 ·have hne:(pk Ts a != [41])=true:=by simpa using hp
  have hne2:(pk Ts a==[41])=false:=by simpa using hp
  have HPKa:=hdQ (HPK.out _ a NA nc ns _ HSA.out ha)
  obtain ⟨R,hR⟩:=qv (prs Ts (k+1) (.args name []) d a ns)
  have HST:=qh (∀ w1,Below (w.alloc (.cells #[] 3)).heap.size (w.alloc (.cells #[] 3)) w1->Zsg B base TA tc Ts AA ac as_ X NA (k+1) d name R w (k+1) [] (some ⟨w.heap.size,0,none⟩) 0 w1) (λw1 hb1=>⟨a,NA,nc,ns,k+1,HSA.out.step hb1,ha,hn,Nat.le_refl _,Nat.le_refl _,hR,λq=>hp q.2,qs,Zaj.step hb1 HG0.out,Only.of_below (bst hb1) _,λx hx=>.inl hx⟩)
  rw [hR]
  have HPNE:=hdQ hp
  generalize pk Ts a=y at *
  clear hR hn hp HG0
  go_enter Tryz.func264,Tryz.ntmps264
  go_wp2_with (first|(go_at_call 121;refine HPKa.out.mono ?_;rintro e w1 ⟨rfl,hb1⟩;have HIV:=hdQ (HST.out w1 hb1);clear hb1)|fail)
  go_loopg [7,8] (k+1) (λg p _ wr=>∃ (l:List Int) (PA:OA) (pc:Nat),p=.slice PA l.length pc/\Zsg B base TA tc Ts AA ac as_ X NA (k+1) d name R w g l PA pc wr)
  case atStart=>exact ⟨[],_,0,rfl,HIV.out⟩
  case round =>
   obtain ⟨l,PA,pc,rfl,a1,NA1,nc1,n1,f,hst,ha1,hf1,hf2,hf3,hR,hnl,hl3,hg,hO,hS⟩:=hrel
   obtain ⟨wo,rfl⟩:=qe wr
   obtain ⟨f',rfl⟩:∃ f',f=f'+1:=⟨f-1,qo⟩
   have hPge:=hg.ge
   have hPlt:=hg.lt
   have hOz:=hO.size
   have HS0:=hdQ hst
   have HO:=hdQ hO
   have HSb:=hdQ hS
   have HG:=hdQ hg
   have HGE:=hdQ hPge
   have hB0:=hst.1.lt
   clear HIV HSA HPKa hne hne2
   by_cases h3:l.length=3
   ·rw [Zpc hnl h3] at hR
    subst hR
    have e3:((l.length:Int)==3)=true:=by rw [h3];rfl
    have HFL:=hdQ (Zcr wo hst ha1)
    clear h3 hst hO hS hg hPge hPlt hnl
    go_wp2_with (first|(go_at_call 60;refine HFL.out.mono ?_;rintro e w2 ⟨rfl,rfl⟩)|fail)
    go_ret
    exact ⟨0,_,_,_,_,rfl,(HS0.out.setBad _).1.drew,hk.off _,(HO.out.setCell qs _).drew⟩
   ·have e3:((l.length:Int)==3)=false:=by rw [beq_eq_false_iff_ne];omega
    have hE:=Zbq hk.ok f' (.bin true) d a1 n1 ha1 (by show 3+_<=f';omega)
    have HEX:=hdQ (Zep (ih f' qo) wo hst ha1 hd qo)
    cases hr:prs Ts f' (.bin true) d a1 n1 with
    | out=>exact absurd hr hE.1
    | bad o =>
     rw [Zkk hnl h3 hr] at hR
     subst hR
     rw [hr] at HEX
     clear h3 hst hO hS hg hPge hPlt hnl hr hE
     go_wp2_with (first|(go_at_call 62;refine HEX.out.mono ?_;rintro e u2 ⟨r,b0,b1,b2,b3,rfl,hw2,ho2,hO2⟩;have HW2:=hdQ hw2;have HO2:=hdQ hO2;have g4:=hw2.cell 4;(try dsimp only [List.getElem?_cons_succ,List.getElem?_cons_zero] at g4);clear hw2 hO2)|fail)
     go_ret
     exact PGo.comp HO.out HSb.out ⟨0,b0,b1,b2,b3,rfl,HW2.out,ho2,HO2.out⟩
    | ok v a2 n2 =>
     rw [hr] at HEX
     have h6:=hE.2 v a2 n2 hr
     have h6':a1+1<=a2/\a2<Ts.length:=h6
     have HAPD:=qh (∀ (u2 u3:World) (NA2:OA) (nc2:Nat) (ob:Obj) (A':OA) (c':Nat),Za1 u2 B base TA tc Ts AA ac as_ (gOf PA++X) a2 NA2 nc2 n2 (-1)->Only wo.heap.size (B::gOf NA1) wo u2->(∀ x,x∈gOf NA2->x∈gOf NA1∨wo.heap.size<=x) ->
       Za8 (u2.alloc ob) w.heap.size 3 1 PA l.length (ints l++ints [v]) A' (l.length+1) c' u3->Za1 u3 B base TA tc Ts AA ac as_ (gOf A'++X) a2 NA2 nc2 n2 (-1)/\Zaj u3 w.heap.size 3 1 A' (l++[v]).length c' (ints (l++[v]))/\Only w.heap.size (B::gOf NA) w u3/\(∀ x,x∈gOf NA2->x∈gOf NA∨w.heap.size<=x)) (λu2 u3 NA2 nc2 ob A' c' q1 q2 q3 gA=>by
      obtain ⟨r1,r2⟩:=PGo.after (B:=B) HO.out HSb.out q2 q3 ob
      refine ⟨(q1.alloc ob).app gA, ?_,r1.app gA HGE.out,r2⟩
      have:=gA.1
      rw [show ints l++ints [v]=ints (l++[v]) by simp [ints]] at this
      rw [show (l++[v]).length=l.length+1 by simp]
      exact this)
     have HGR:=qh (∀ u2,Only wo.heap.size (B::gOf NA1) wo u2->Zaj u2 w.heap.size 3 1 PA l.length pc (ints l)) (λu2 q=>HG.out.only q (λx hx=>⟨hPlt x hx,λr=>by
      rcases List.mem_cons.1 r with r|r
      ·exact (HS0.out.2.xlt x (by simp [hx])).2 r
      ·exact (HS0.out.2.apN x r).2.2 (by simp [hx])⟩))
     have hl2:l.length<=2:=qo
     clear hst hO hS hg hPge hPlt hE
     by_cases hp44:pk Ts a2=[44]
     ·rw [Zki hnl h3 hr hp44] at hR
      have hin:=Zdg hk.ok h6'.2 (by rw [hp44];simp)
      have HNX:=qh (∀ (u4:World) (NA2:OA) (nc2:Nat) (A':OA) (c':Nat),Za1 u4 B base TA tc Ts AA ac as_ (gOf A'++X) a2 NA2 nc2 n2 (-1)->Zaj u4 w.heap.size 3 1 A' (l++[v]).length c' (ints (l++[v]))->Only w.heap.size (B::gOf NA) w u4->(∀ x,x∈gOf NA2->x∈gOf NA∨w.heap.size<=x)->Zsg B base TA tc Ts AA ac as_ X NA (k+1) d name R w (gk-1) (l++[v]) A' c' (u4.setCell ⟨B,1,none⟩ (.int .i64 ((a2:Int)+1)))) (λu4 NA2 nc2 A' c' q1 q2 q3 q4=>by
       have q5:=q1.setAt (a2+1)
       refine ⟨a2+1,NA2,nc2,n2,f',by simpa using q5,hin,qo,qo,qo,hR,λq=>by simp at q,by simp;omega, ?_,q3.setCell qs _,q4⟩
       exact q2.keep (λx hx=>Below.heap_setCell _ _ _ _ (λe=>(q1.2.xlt x (by simp [hx])).2 e)))
      have HPK2:=qh (∀ (u3:World) (NA2:OA) (nc2:Nat) (Y:List Nat),Za1 u3 B base TA tc Ts AA ac as_ Y a2 NA2 nc2 n2 (-1)->CL 121 #[.pointer (some ⟨B,0,none⟩)] u3 λe w'=>e=.returned (.string ⟨#[44]⟩)/\Bw u3 w') (λu3 NA2 nc2 Y q=>by have:=HPK.out u3 a2 NA2 nc2 n2 Y q h6'.2;rw [hp44] at this;exact this)
      have ha2s:a2<1048576:=qo
      clear h3 hr hR hp44 hnl HPK
      go_wp2_with (first|(go_at_call 62;refine HEX.out.mono ?_;rintro e u2 ⟨NA2,nc2,rfl,hs2,hO2,hS2⟩;have HS2:=hdQ hs2;have HO2:=hdQ hO2;have HSb2:=hdQ hS2;have g4:=hs2.cells.2.2.2.2.2.1;have hz2:=hO2.size;have HG2:=hdQ (HGR.out u2 hO2);clear hs2 hO2 hS2)|(at_builtin;refine wpA (w.heap.size) Tryz.underlying24 T.infoInt (ints l) (ints [v]) (Zc4 _) ?_ ?_ ?_;exact (gwx HG2.out);exact (ltt 1);rintro A' c' w2 gA;obtain ⟨z1,z2,z3,z4⟩:=HAPD.out _ _ _ _ _ _ _ HS2.out HO2.out HSb2.out gA;have HS3:=hdQ z1;have HG3:=hdQ z2;have HO3:=hdQ z3;have HSb3:=hdQ z4;have hz3:=z3.size;clear gA z1 z2 z3 z4)|(go_at_call 121;refine (HPK2.out _ _ _ _ HS3.out).mono ?_;rintro e u4 ⟨rfl,hb4⟩;have HS4:=hdQ (HS3.out.step hb4);have HG4:=hdQ (HG3.out.step hb4);have HO4:=qh (Only w.heap.size (B::gOf NA) w u4) (HO3.out.sub (Only.of_below hb4 []) hz3 (λx hx=>by cases hx));have d1:=HS4.out.cells.2.2.1;have df:=HS4.out.cells.2.2.2.2.2.2;have dB:=HS4.out.cells.1;clear hb4)|fail)
      go_roundg (gk-1)
      case measure=>omega
      case rel=>exact ⟨l++[v],_,_,by rw [List.length_append];rfl,HNX.out _ _ _ _ _ HS4.out HG4.out HO4.out HSb3.out⟩
     ·have HPK2:=qh (∀ (u3:World) (NA2:OA) (nc2:Nat) (Y:List Nat),Za1 u3 B base TA tc Ts AA ac as_ Y a2 NA2 nc2 n2 (-1)->CL 121 #[.pointer (some ⟨B,0,none⟩)] u3 λe w'=>e=.returned (str (pk Ts a2))/\Bw u3 w') (λu3 NA2 nc2 Y q=>HPK.out u3 a2 NA2 nc2 n2 Y q h6'.2)
      have hm:(pk Ts a2 != [44])=true:=by simpa using hp44
      have hm2:(pk Ts a2==[44])=false:=by simpa using hp44
      by_cases hp41:pk Ts a2=[41]
      ·rw [Zkj hnl h3 hr hp44 hp41] at hR
       have hin:=Zdg hk.ok h6'.2 (by rw [hp41];simp)
       have HXPa:=qh (∀ (wx:World) (NA2:OA) (nc2:Nat) (Y:List Nat),Za1 wx B base TA tc Ts AA ac as_ Y a2 NA2 nc2 n2 (-1)->CL 61 #[.pointer (some ⟨B,0,none⟩),.string ⟨#[41]⟩] wx (Zyd B base TA tc Ts AA ac as_ Y a2 NA2 nc2 n2 true wx)) (λwx NA2 nc2 Y hx=>by have:=HXP.out wx a2 NA2 nc2 n2 Y hx h6'.2;rw [hp41] at this;exact this)
       have HEMa:=qh (∀ (wx:World) (NA2:OA) (nc2:Nat) (A':OA) (c':Nat),Za1 wx B base TA tc Ts AA ac as_ (gOf A'++X) (a2+1) NA2 nc2 n2 (-1)->Zaj wx w.heap.size 3 1 A' (l++[v]).length c' (ints (l++[v]))->CL 176 #[.pointer (some ⟨B,0,none⟩),Zhn 8 name 0 (.slice A' (l.length+1) c')] wx (PGo B base TA tc Ts AA ac as_ X NA2 R wx)) (λwx NA2 nc2 A' c' hx hg=>by
        have:=HEM.out wx a2 NA2 nc2 n2 (l++[v]) A' c' hx hin hg.ownS hg.ge
        rw [hR,show (l++[v]).length=l.length+1 by simp] at this
        exact this)
       clear h3 hr hR hp44 hp41 hnl HPK HXP HEM
       generalize pk Ts a2=y2 at *
       go_wp2_with (first|(go_at_call 62;refine HEX.out.mono ?_;rintro e u2 ⟨NA2,nc2,rfl,hs2,hO2,hS2⟩;have HS2:=hdQ hs2;have HO2:=hdQ hO2;have HSb2:=hdQ hS2;have g4:=hs2.cells.2.2.2.2.2.1;have hz2:=hO2.size;have HG2:=hdQ (HGR.out u2 hO2);clear hs2 hO2 hS2)|(at_builtin;refine wpA (w.heap.size) Tryz.underlying24 T.infoInt (ints l) (ints [v]) (Zc4 _) ?_ ?_ ?_;exact (gwx HG2.out);exact (ltt 1);rintro A' c' w2 gA;obtain ⟨z1,z2,z3,z4⟩:=HAPD.out _ _ _ _ _ _ _ HS2.out HO2.out HSb2.out gA;have HS3:=hdQ z1;have HG3:=hdQ z2;have HO3:=hdQ z3;have HSb3:=hdQ z4;have hz3:=z3.size;clear gA z1 z2 z3 z4)|(go_at_call 121;refine (HPK2.out _ _ _ _ HS3.out).mono ?_;rintro e u4 ⟨rfl,hb4⟩;have HS4:=hdQ (HS3.out.step hb4);have HG4:=hdQ (HG3.out.step hb4);have HO4:=qh (Only w.heap.size (B::gOf NA) w u4) (HO3.out.sub (Only.of_below hb4 []) hz3 (λx hx=>by cases hx));have hz4:=HO4.out.size;clear hb4)|(go_at_call 61;refine (HXPa.out _ _ _ _ HS4.out).mono ?_;rintro e u5 ⟨rfl,hO5,hs5,_⟩;have HS5:=hdQ (hs5 rfl);have HG5:=hdQ (HG4.out.only hO5 (λx hx=>⟨HG4.out.lt x hx,λr=>by simp at r;exact (HS4.out.2.xlt x (by simp [hx])).2 r⟩));have HO5:=qh (Only w.heap.size (B::gOf NA) w u5) (HO4.out.sub hO5 hz4 (λx hx=>.inl (by simp at hx;simp [hx])));clear hO5 hs5)|(go_at_call 176;refine (HEMa.out _ _ _ _ _ HS5.out HG5.out).mono ?_;rintro e u6 hg;obtain ⟨v6,rfl⟩:=hg.ret;have HG6:=hdQ (hg.comp HO5.out HSb3.out);clear hg)|fail)
       go_ret
       exact HG6.out
      ·rw [Zkh hnl h3 hr hp44 hp41] at hR
       subst hR
       have hdf:decide (pk Ts a2=[41])=false:=by simp [hp41]
       have HXPa:=qh (∀ (wx:World) (NA2:OA) (nc2:Nat) (Y:List Nat),Za1 wx B base TA tc Ts AA ac as_ Y a2 NA2 nc2 n2 (-1)->CL 61 #[.pointer (some ⟨B,0,none⟩),.string ⟨#[41]⟩] wx (Zyd B base TA tc Ts AA ac as_ Y a2 NA2 nc2 n2 false wx)) (λwx NA2 nc2 Y hx=>by have:=HXP.out wx a2 NA2 nc2 n2 Y hx h6'.2;rw [hdf] at this;exact this)
       clear h3 hr hp44 hp41 hnl HPK HXP HEM hdf
       generalize pk Ts a2=y2 at *
       go_wp2_with (first|(go_at_call 62;refine HEX.out.mono ?_;rintro e u2 ⟨NA2,nc2,rfl,hs2,hO2,hS2⟩;have HS2:=hdQ hs2;have HO2:=hdQ hO2;have HSb2:=hdQ hS2;have g4:=hs2.cells.2.2.2.2.2.1;have hz2:=hO2.size;have HG2:=hdQ (HGR.out u2 hO2);clear hs2 hO2 hS2)|(at_builtin;refine wpA (w.heap.size) Tryz.underlying24 T.infoInt (ints l) (ints [v]) (Zc4 _) ?_ ?_ ?_;exact (gwx HG2.out);exact (ltt 1);rintro A' c' w2 gA;obtain ⟨z1,z2,z3,z4⟩:=HAPD.out _ _ _ _ _ _ _ HS2.out HO2.out HSb2.out gA;have HS3:=hdQ z1;have HG3:=hdQ z2;have HO3:=hdQ z3;have HSb3:=hdQ z4;have hz3:=z3.size;clear gA z1 z2 z3 z4)|(go_at_call 121;refine (HPK2.out _ _ _ _ HS3.out).mono ?_;rintro e u4 ⟨rfl,hb4⟩;have HS4:=hdQ (HS3.out.step hb4);have HG4:=hdQ (HG3.out.step hb4);have HO4:=qh (Only w.heap.size (B::gOf NA) w u4) (HO3.out.sub (Only.of_below hb4 []) hz3 (λx hx=>by cases hx));have hz4:=HO4.out.size;clear hb4)|(go_at_call 61;refine (HXPa.out _ _ _ _ HS4.out).mono ?_;rintro e u5 ⟨rfl,hO5,_,hs5⟩;obtain ⟨b0,b1,b2,b3,hw5⟩:=hs5 rfl;have HW5:=hdQ hw5;have HO5:=qh (Only w.heap.size (B::gOf NA) w u5) (HO4.out.sub hO5 hz4 (λx hx=>.inl (by simp at hx;simp [hx])));clear hO5 hs5 hw5)|fail)
       go_ret
       exact ⟨0,b0,b1,b2,b3,rfl,HW5.out,hk.off _,HO5.out⟩
section
variable {w w' w1:World} {B base:Nat} {TA:OA} {tc:Nat} {Ts:List Zam} {AA:OA} {ac:Nat} {as_:List Zab} {X:List Nat} {NA NA1:OA} {nc:Nat} {ns:List Zac} {a:Nat} {dp:Int} {r:PR} {e:Ending}
theorem Zbh.ownX {Y:List Nat} (h:Zbh w B base TA tc Ts AA ac as_ X a dp NA nc ns) (hb:Bw w w') (hY:∀ y,y∈Y->y<w'.heap.size/\(y∈X∨w.heap.size<=y)):Zbh w' B base TA tc Ts AA ac as_ Y a dp NA nc ns:=⟨h.1.step hb,h.2.own hb hY⟩
theorem Zbh.fresh_ (h:Zbh w B base TA tc Ts AA ac as_ X a dp NA nc ns) (o:Obj):Zbh (w.alloc o) B base TA tc Ts AA ac as_ (gOf (some ⟨w.heap.size,0,none⟩)++X) a dp NA nc ns:=h.ownX ((Below.refl _ _).alloc (Nat.le_refl _) _) (λy hy=>by
  simp only [gOf,List.mem_append,List.mem_cons,List.not_mem_nil,or_false] at hy
  rcases hy with rfl|hy
  ·exact ⟨qs,.inr (Nat.le_refl _)⟩
  ·exact ⟨by have:=(h.2.xlt y hy).1;simp;omega,.inl hy⟩)
theorem IGo.comp (h1:Only w.heap.size (B::gOf NA) w w1) (hs:∀ x,x∈gOf NA1->x∈gOf NA∨w.heap.size<=x) (h:IGo B base TA tc Ts AA ac as_ X dp NA1 r w1 e w'):IGo B base TA tc Ts AA ac as_ X dp NA r w e w':=by
 have hsub:∀ x,x∈B::gOf NA1->x∈B::gOf NA∨w.heap.size<=x:=λx hx=>by
  rcases List.mem_cons.1 hx with rfl|hx
  ·exact .inl qs
  ·exact (hs x hx).imp (λq=>List.mem_cons_of_mem _ q) id
 cases r with
 | ok v a ns =>
  obtain ⟨NA',nc',rfl,h2,h3,h4⟩:=h
  refine ⟨NA',nc',rfl,h2,h1.sub h3 h1.size hsub,λx hx=>?_⟩
  rcases h4 x hx with q|q
  ·exact hs x q
  ·exact .inr (Nat.le_trans h1.size q)
 | bad o =>
  obtain ⟨rfl,h2,h4⟩:=h
  exact ⟨rfl,h2,h1.sub h4 h1.size hsub⟩
 | out=>exact h.elim
end
def opF (add:Bool):Nat:=if add then 247 else 275
def biF (add:Bool):Nat:=if add then 196 else 247
structure IPc (B base:Nat) (TA:OA) (tc:Nat) (Ts:List Zam) (AA:OA) (ac:Nat) (as_:List Zab) (n:Nat):Prop where
 bin:∀ (add:Bool) (d a:Nat) (X:List Nat) (NA:OA) (nc:Nat) (ns:List Zac) (w:World),Zbh w B base TA tc Ts AA ac as_ X a d NA nc ns->a<Ts.length->d<=64->mu (.bin add)+4*(Ts.length-a)<=n ->
  CL (biF add) #[.pointer (some ⟨B,0,none⟩)] w (IGo B base TA tc Ts AA ac as_ X d NA (prs Ts n (.bin add) (d+1) a ns) w)
 fac:∀ (d a:Nat) (X:List Nat) (NA:OA) (nc:Nat) (ns:List Zac) (w:World),Zbh w B base TA tc Ts AA ac as_ X a d NA nc ns->a<Ts.length->d<=64->1+4*(Ts.length-a)<=n ->
  CL 275 #[.pointer (some ⟨B,0,none⟩)] w (IGo B base TA tc Ts AA ac as_ X d NA (prs Ts n .fac (d+1) a ns) w)
 cal:∀ (name:List UInt8) (d a:Nat) (X:List Nat) (NA:OA) (nc:Nat) (ns:List Zac) (w:World),Zbh w B base TA tc Ts AA ac as_ X a d NA nc ns->a+1<Ts.length->d<=64->pk Ts a=[40]->4+4*(Ts.length-(a+1))<=n ->
  CL 290 #[.pointer (some ⟨B,0,none⟩),str name] w (IGo B base TA tc Ts AA ac as_ X d NA (prs Ts n (.args name []) (d+1) (a+1) ns) w)
theorem IPc.opd {B base:Nat} {TA:OA} {tc:Nat} {Ts:List Zam} {AA:OA} {ac:Nat} {as_:List Zab} {n:Nat} (ih:IPc B base TA tc Ts AA ac as_ n) (add:Bool) {d a:Nat} {X:List Nat} {NA:OA} {nc:Nat} {ns:List Zac} (w:World)
  (h:Zbh w B base TA tc Ts AA ac as_ X a d NA nc ns) (ha:a<Ts.length) (hd:d<=64) (hn:mu (opd add)+4*(Ts.length-a)<=n) :
  CL (opF add) #[.pointer (some ⟨B,0,none⟩)] w (IGo B base TA tc Ts AA ac as_ X d NA (prs Ts n (Go.Proofs.YticdknjoapdmeaaGreatDoor.opd add) (d+1) a ns) w):=by
 cases add with
 | true=>exact ih.bin false d a X NA nc ns w h ha hd hn
 | false=>exact ih.fac d a X NA nc ns w h ha hd hn
theorem opF_call (add:Bool) (args:Array Value) (w:World):(callFunc (opF add) args).run Tryz.prog w=.ok (.enter (opF add) args) w:=by
 cases add
 ·show (callFunc 275 args).run Tryz.prog w=.ok (.enter 275 args) w
  have hf:=Tryz.func275
  simp [go_sem,hf]
 ·show (callFunc 247 args).run Tryz.prog w=.ok (.enter 247 args) w
  have hf:=Tryz.func247
  simp [go_sem,hf]
def ChInv (B base:Nat) (TA:OA) (tc:Nat) (Ts:List Zam) (AA:OA) (ac:Nat) (as_:List Zab) (X:List Nat) (NA:OA) (n d:Nat) (add:Bool) (R:PR) (w:World) (k:Nat) (v:Int) (wr:World):Prop :=
 ∃ (a1:Nat) (NA1:OA) (nc1:Nat) (n1:List Zac) (f:Nat),Zbh wr B base TA tc Ts AA ac as_ X a1 d NA1 nc1 n1/\a1<Ts.length/\4+4*(Ts.length-a1)<=f/\f<=n/\f<=k/\prs Ts f (.loop add v) (d+1) a1 n1=R/\Only w.heap.size (B::gOf NA) w wr/\(∀ x,x∈gOf NA1->x∈gOf NA∨w.heap.size<=x)
set_option maxHeartbeats 2000000 in
theorem Zyj {B base:Nat} {TA:OA} {tc:Nat} {Ts:List Zam} {AA:OA} {ac:Nat} {as_:List Zab} {k:Nat} (hk:TokK Ts) (add:Bool) (c0 c1:UInt8) (i1 i2:Int) (hop:∀ x,opS add x=if x=[c0] then i1 else if x=[c1] then i2 else 0) (hi1:i1≠0) (hi2:i2≠0) (hcc:c1≠c0) {d a:Nat} {X:List Nat} {NA:OA} {nc:Nat} {ns:List Zac} (w:World)
  (HOP:Hid (∀ f,f<=k->∀ (a:Nat) (NA:OA) (nc:Nat) (ns:List Zac) (wx:World),Zbh wx B base TA tc Ts AA ac as_ X a d NA nc ns->a<Ts.length->mu (opd add)+4*(Ts.length-a)<=f ->
   CL (opF add) #[.pointer (some ⟨B,0,none⟩)] wx (IGo B base TA tc Ts AA ac as_ X d NA (prs Ts f (opd add) (d+1) a ns) wx)))
  (h:Zbh w B base TA tc Ts AA ac as_ X a d NA nc ns) (ha:a<Ts.length) (hn:mu (.bin add)+4*(Ts.length-a)<=k+1) :
  CL 246 #[.pointer (some ⟨B,0,none⟩),.func (.func (opF add)) #[.pointer (some ⟨B,0,none⟩)] #[],str [c0,c1],.int .i64 i1,.int .i64 i2] w (IGo B base TA tc Ts AA ac as_ X d NA (prs Ts (k+1) (.bin add) (d+1) a ns) w):=by
 obtain ⟨h1,h2,h3⟩:=Zxc add
 have hE:=Zbq hk.ok k (opd add) (d+1) a ns ha qo
 have HC:=hdQ (HOP.out k (Nat.le_refl _) a NA nc ns w h ha qo)
 have hcf:=opF_call add
 have he1:({ data := #[c0,c1] }:ByteArray).extract 0 1=⟨#[c0]⟩:=rfl
 have he2:({ data := #[c0,c1] }:ByteArray).extract 1 2=⟨#[c1]⟩:=rfl
 cases hr0:prs Ts k (opd add) (d+1) a ns with
 | out=>exact absurd hr0 hE.1
 | bad o =>
  rw [Zs1 hr0]
  rw [hr0] at HC
  generalize opF add=gF at *
  clear hop hE h hn hr0 HOP
  go_enter Tryz.func246,Tryz.ntmps246
  go_wp2_with fail
  refine HC.out.mono ?_
  rintro e w1 ⟨rfl,q1,q2⟩
  have Q1:=hdQ q1
  have Q2:=hdQ q2
  clear q1 q2
  go_wp2_with fail
  exact ⟨rfl,rfl,Q1.out,Q2.out⟩
 | ok v0 a1 n1 =>
  have h5:=hE.2 v0 a1 n1 hr0
  rw [Zo3] at h5
  obtain ⟨R,hR⟩:=qv (prs Ts (k+1) (.bin add) (d+1) a ns)
  rw [hr0] at HC
  have HST:=qh (∀ (NA':OA) (nc':Nat) (w1:World),Zbh w1 B base TA tc Ts AA ac as_ X a1 d NA' nc' n1->Only w.heap.size (B::gOf NA) w w1->(∀ x,x∈gOf NA'->x∈gOf NA∨w.heap.size<=x)->ChInv B base TA tc Ts AA ac as_ X NA k d add R w k v0 w1) (λNA' nc' w1 q1 q2 q3=>⟨a1,NA',nc',n1,k,q1,h5.2,qo,Nat.le_refl _,Nat.le_refl _,by rw [<- hR,Zs2 hr0],q2,q3⟩)
  rw [hR]
  generalize opF add=gF at *
  clear hE h hn hR hr0
  go_enter Tryz.func246,Tryz.ntmps246
  go_wp2_with fail
  (with_reducible refine HC.out.mono ?_)
  rintro e w1 ⟨NA',nc',rfl,q1,q2,q3⟩
  have HV:=hdQ (HST.out NA' nc' w1 q1 q2 q3)
  clear q1 q2 q3
  go_wp2_with fail
  go_loopg [11,12,13] k (λg p _ _ wr=>∃ v:Int,p=.int .i64 v/\ChInv B base TA tc Ts AA ac as_ X NA k d add R w g v wr)
  case atStart=>exact ⟨v0,rfl,HV.out⟩
  case round =>
   obtain ⟨v',rfl,a2,NA1,nc1,n2,f,hst,ha1,hf1,hf2,hf3,hR,hO,hS⟩:=hrel
   obtain ⟨wo,rfl⟩:=qe wr
   obtain ⟨f',rfl⟩:∃ f',f=f'+1:=⟨f-1,qo⟩
   have HS:=hdQ hst
   have HO:=hdQ hO
   have HSb:=hdQ hS
   have hOz:=hO.size
   have HI1:=hdQ (I_is [c0] wo hst ha1 qs)
   have HI2:=qh (∀ wx,Bw wo wx->CR 245 #[.pointer (some ⟨B,0,none⟩),.string ⟨#[c1]⟩] wx (.bool (decide (pk Ts a2=[c1])))) (λwx hb=>I_is [c1] wx (HS.out.step hb) ha1 qs)
   have HI1:Hid (CR 245 #[.pointer (some ⟨B,0,none⟩),.string ⟨#[c0]⟩] wo (.bool (decide (pk Ts a2=[c0])))):=HI1
   have HNX:=qh (kd Ts a2≠0->∀ wx,Bw wo wx->CL 193 #[.pointer (some ⟨B,0,none⟩)] wx λe w'=>∃ v,e=.returned v/\Zbh w' B base TA tc Ts AA ac as_ X (a2+1) d NA1 nc1 n2/\Only wx.heap.size [B] wx w') (λhkd wx hb=>(Zqk wx (HS.out.step hb) ha1 hk.len hkd).mono (λe w' q=>⟨_,q⟩))
   clear HV HST HC hst hO hS
   by_cases hp0:pk Ts a2=[c0]
   ·have hin1:=Zdg hk.ok ha1 (by rw [hp0];simp)
    have HNX:=hdQ (HNX.out (Zuc hp0 qs))
    rw [show decide (pk Ts a2=[c0])=true by simp [hp0]] at HI1
    have hqo:opS add (pk Ts a2)=i1:=by rw [hop];simp [*]
    have hq0:opS add (pk Ts a2)≠0:=by rw [hqo];assumption
    have hE:=Zbq hk.ok f' (opd add) (d+1) (a2+1) n2 hin1 qo
    have HOPR:=qh (∀ wx,Zbh wx B base TA tc Ts AA ac as_ X (a2+1) d NA1 nc1 n2->CL gF #[.pointer (some ⟨B,0,none⟩)] wx (IGo B base TA tc Ts AA ac as_ X d NA1 (prs Ts f' (opd add) (d+1) (a2+1) n2) wx)) (λwx hx=>HOP.out f' qo (a2+1) NA1 nc1 n2 wx hx hin1 qo)
    cases hr:prs Ts f' (opd add) (d+1) (a2+1) n2 with
    | out=>exact absurd hr hE.1
    | bad o =>
     rw [Zkf hq0 hr] at hR
     subst hR
     rw [hr] at HOPR
     clear hr hE hq0 hqo hop
     go_wp2_with fail
     (with_reducible refine HI1.out.mono ?_)
     rintro e u1 ⟨rfl,hb1⟩
     have HB1:=hdQ hb1
     clear hb1
     go_wp2_with fail
     (with_reducible refine (HNX.out _ HB1.out).mono ?_)
     rintro e u2 ⟨v2,rfl,hs2,hO2⟩
     have HS2:=hdQ hs2
     have HO2:=qh (Only w.heap.size (B::gOf NA) w u2) ((HO.out.sub (Only.of_below HB1.out []) hOz (λx hx=>by cases hx)).sub hO2 (Nat.le_trans hOz HB1.out.size) (λx hx=>.inl (by simp at hx;simp [hx])))
     clear hs2 hO2
     go_wp2_with fail
     (with_reducible refine (HOPR.out _ HS2.out).mono ?_)
     rintro e u3 ⟨rfl,q1,q2⟩
     have Q1:=hdQ q1
     have Q2:=qh (Only w.heap.size (B::gOf NA) w u3) (HO2.out.sub q2 HO2.out.size (λx hx=>by
      rcases List.mem_cons.1 hx with rfl|hx
      ·exact .inl qs
      ·exact (HSb.out x hx).imp (λq=>List.mem_cons_of_mem _ q) id))
     clear q1 q2
     go_wp2_with fail
     exact ⟨rfl,rfl,Q1.out,Q2.out⟩
    | ok b a3 n3 =>
     have hR2:=Zkg (v:=v') hq0 hr
     rw [hR,hqo] at hR2
     rw [hr] at HOPR
     have h6:=hE.2 b a3 n3 hr
     rw [Zo3] at h6
     have HAD:=qh (∀ (wx:World) (NA2:OA) (nc2:Nat),Zbh wx B base TA tc Ts AA ac as_ X a3 d NA2 nc2 n3->CL 274 #[.pointer (some ⟨B,0,none⟩),Zhn i1 [] 0 (.slice (some ⟨wx.heap.size,0,none⟩) 2 2)] (wx.alloc (.cells #[.int .i64 v',.int .i64 b] 3)) (IGo B base TA tc Ts AA ac as_ X d NA2 (emit Ts (i1,[],0,[v',b]) a3 n3) (wx.alloc (.cells #[.int .i64 v',.int .i64 b] 3)))) (λwx NA2 nc2 hx =>
      Zvn (args:=[v',b]) _ (hx.fresh_ _) qo h6.2 hk.len (Zdb.some_ (Own.new wx 3 #[.int .i64 v',.int .i64 b]) rfl qs) (λy hy=>by
       obtain rfl:y=wx.heap.size:=by simpa [gOf] using hy
       exact λq=>by have:=(hx.2.xlt _ q).1;omega))
     have ha3:=h6.2
     clear hr hE hq0 hqo hop hR
     cases he:emit Ts (i1,[],0,[v',b]) a3 n3 with
     | out=>unfold emit at he;split at he<;>cases he
     | bad o =>
      rw [he] at HAD hR2
      subst hR2
      clear he
      go_wp2_with fail
      (with_reducible refine HI1.out.mono ?_)
      rintro e u1 ⟨rfl,hb1⟩
      have HB1:=hdQ hb1
      clear hb1
      go_wp2_with fail
      (with_reducible refine (HNX.out _ HB1.out).mono ?_)
      rintro e u2 ⟨v2,rfl,hs2,hO2⟩
      have HS2:=hdQ hs2
      have HO2:=qh (Only w.heap.size (B::gOf NA) w u2) ((HO.out.sub (Only.of_below HB1.out []) hOz (λx hx=>by cases hx)).sub hO2 (Nat.le_trans hOz HB1.out.size) (λx hx=>.inl (by simp at hx;simp [hx])))
      clear hs2 hO2
      go_wp2_with fail
      (with_reducible refine (HOPR.out _ HS2.out).mono ?_)
      rintro e u3 ⟨NA2,nc2,rfl,hs3,hO3,hS3⟩
      have HS3:=hdQ hs3
      have HOS:=hdQ (PGo.after HO2.out HSb.out hO3 hS3 (.cells #[.int .i64 v',.int .i64 b] 3))
      clear hs3 hO3 hS3
      go_wp2_with fail
      (with_reducible refine (HAD.out _ _ _ HS3.out).mono ?_)
      rintro e u4 hg
      have HG4:=hdQ (hg.comp HOS.out.1 HOS.out.2)
      obtain ⟨rfl,q1,q2⟩:=hg
      clear q1 q2
      go_wp2_with fail
      exact ⟨rfl,HG4.out⟩
     | ok u a4 n4 =>
      obtain ⟨rfl, -⟩:=Zhs he
      rw [he] at HAD hR2
      clear he
      go_wp2_with fail
      (with_reducible refine HI1.out.mono ?_)
      rintro e u1 ⟨rfl,hb1⟩
      have HB1:=hdQ hb1
      clear hb1
      go_wp2_with fail
      (with_reducible refine (HNX.out _ HB1.out).mono ?_)
      rintro e u2 ⟨v2,rfl,hs2,hO2⟩
      have HS2:=hdQ hs2
      have HO2:=qh (Only w.heap.size (B::gOf NA) w u2) ((HO.out.sub (Only.of_below HB1.out []) hOz (λx hx=>by cases hx)).sub hO2 (Nat.le_trans hOz HB1.out.size) (λx hx=>.inl (by simp at hx;simp [hx])))
      clear hs2 hO2
      go_wp2_with fail
      (with_reducible refine (HOPR.out _ HS2.out).mono ?_)
      rintro e u3 ⟨NA2,nc2,rfl,hs3,hO3,hS3⟩
      have HS3:=hdQ hs3
      have HOS:=hdQ (PGo.after HO2.out HSb.out hO3 hS3 (.cells #[.int .i64 v',.int .i64 b] 3))
      clear hs3 hO3 hS3
      go_wp2_with fail
      (with_reducible refine (HAD.out _ _ _ HS3.out).mono ?_)
      rintro e u4 hg
      have hg2:=hg.comp HOS.out.1 HOS.out.2
      obtain ⟨NA4,nc4,rfl,p1,p2,p3⟩:=hg2
      have HV4:=qh (ChInv B base TA tc Ts AA ac as_ X NA k d add R w (gk-1) u u4) ⟨a4,NA4,nc4,n4,f',p1,ha3,qo,qo,qo,hR2.symm,p2,p3⟩
      clear hg p1 p2 p3
      go_wp2_with fail
      go_roundg (gk-1)
      case measure=>omega
      case rel=>exact ⟨u,rfl,HV4.out⟩
   ·rw [show decide (pk Ts a2=[c0])=false by simp [hp0]] at HI1
    by_cases hp1:pk Ts a2=[c1]
    ·have hin1:=Zdg hk.ok ha1 (by rw [hp1];simp)
     have HNX:=hdQ (HNX.out (Zuc hp1 qs))
     rw [show decide (pk Ts a2=[c1])=true by simp [hp1]] at HI2
     have hqo:opS add (pk Ts a2)=i2:=by rw [hop];simp [*]
     have hq0:opS add (pk Ts a2)≠0:=by rw [hqo];assumption
     have hE:=Zbq hk.ok f' (opd add) (d+1) (a2+1) n2 hin1 qo
     have HOPR:=qh (∀ wx,Zbh wx B base TA tc Ts AA ac as_ X (a2+1) d NA1 nc1 n2->CL gF #[.pointer (some ⟨B,0,none⟩)] wx (IGo B base TA tc Ts AA ac as_ X d NA1 (prs Ts f' (opd add) (d+1) (a2+1) n2) wx)) (λwx hx=>HOP.out f' qo (a2+1) NA1 nc1 n2 wx hx hin1 qo)
     cases hr:prs Ts f' (opd add) (d+1) (a2+1) n2 with
     | out=>exact absurd hr hE.1
     | bad o =>
      rw [Zkf hq0 hr] at hR
      subst hR
      rw [hr] at HOPR
      clear hr hE hq0 hqo hop
      go_wp2_with fail
      (with_reducible refine HI1.out.mono ?_)
      rintro e u1 ⟨rfl,hb1⟩
      have HB1:=hdQ hb1
      clear hb1
      go_wp2_with fail
      (with_reducible refine (HI2.out _ HB1.out).mono ?_)
      rintro e u1 ⟨rfl,hb2⟩
      have HB2:=hdQ (Below.step hb2 HB1.out HB1.out.size)
      clear hb2 HB1
      have HB1:=HB2
      clear HB2
      go_wp2_with fail
      (with_reducible refine (HNX.out _ HB1.out).mono ?_)
      rintro e u2 ⟨v2,rfl,hs2,hO2⟩
      have HS2:=hdQ hs2
      have HO2:=qh (Only w.heap.size (B::gOf NA) w u2) ((HO.out.sub (Only.of_below HB1.out []) hOz (λx hx=>by cases hx)).sub hO2 (Nat.le_trans hOz HB1.out.size) (λx hx=>.inl (by simp at hx;simp [hx])))
      clear hs2 hO2
      go_wp2_with fail
      (with_reducible refine (HOPR.out _ HS2.out).mono ?_)
      rintro e u3 ⟨rfl,q1,q2⟩
      have Q1:=hdQ q1
      have Q2:=qh (Only w.heap.size (B::gOf NA) w u3) (HO2.out.sub q2 HO2.out.size (λx hx=>by
       rcases List.mem_cons.1 hx with rfl|hx
       ·exact .inl qs
       ·exact (HSb.out x hx).imp (λq=>List.mem_cons_of_mem _ q) id))
      clear q1 q2
      go_wp2_with fail
      exact ⟨rfl,rfl,Q1.out,Q2.out⟩
     | ok b a3 n3 =>
      have hR2:=Zkg (v:=v') hq0 hr
      rw [hR,hqo] at hR2
      rw [hr] at HOPR
      have h6:=hE.2 b a3 n3 hr
      rw [Zo3] at h6
      have HAD:=qh (∀ (wx:World) (NA2:OA) (nc2:Nat),Zbh wx B base TA tc Ts AA ac as_ X a3 d NA2 nc2 n3->CL 274 #[.pointer (some ⟨B,0,none⟩),Zhn i2 [] 0 (.slice (some ⟨wx.heap.size,0,none⟩) 2 2)] (wx.alloc (.cells #[.int .i64 v',.int .i64 b] 3)) (IGo B base TA tc Ts AA ac as_ X d NA2 (emit Ts (i2,[],0,[v',b]) a3 n3) (wx.alloc (.cells #[.int .i64 v',.int .i64 b] 3)))) (λwx NA2 nc2 hx =>
       Zvn (args:=[v',b]) _ (hx.fresh_ _) qo h6.2 hk.len (Zdb.some_ (Own.new wx 3 #[.int .i64 v',.int .i64 b]) rfl qs) (λy hy=>by
        obtain rfl:y=wx.heap.size:=by simpa [gOf] using hy
        exact λq=>by have:=(hx.2.xlt _ q).1;omega))
      have ha3:=h6.2
      clear hr hE hq0 hqo hop hR
      cases he:emit Ts (i2,[],0,[v',b]) a3 n3 with
      | out=>unfold emit at he;split at he<;>cases he
      | bad o =>
       rw [he] at HAD hR2
       subst hR2
       clear he
       go_wp2_with fail
       (with_reducible refine HI1.out.mono ?_)
       rintro e u1 ⟨rfl,hb1⟩
       have HB1:=hdQ hb1
       clear hb1
       go_wp2_with fail
       (with_reducible refine (HI2.out _ HB1.out).mono ?_)
       rintro e u1 ⟨rfl,hb2⟩
       have HB2:=hdQ (Below.step hb2 HB1.out HB1.out.size)
       clear hb2 HB1
       have HB1:=HB2
       clear HB2
       go_wp2_with fail
       (with_reducible refine (HNX.out _ HB1.out).mono ?_)
       rintro e u2 ⟨v2,rfl,hs2,hO2⟩
       have HS2:=hdQ hs2
       have HO2:=qh (Only w.heap.size (B::gOf NA) w u2) ((HO.out.sub (Only.of_below HB1.out []) hOz (λx hx=>by cases hx)).sub hO2 (Nat.le_trans hOz HB1.out.size) (λx hx=>.inl (by simp at hx;simp [hx])))
       clear hs2 hO2
       go_wp2_with fail
       (with_reducible refine (HOPR.out _ HS2.out).mono ?_)
       rintro e u3 ⟨NA2,nc2,rfl,hs3,hO3,hS3⟩
       have HS3:=hdQ hs3
       have HOS:=hdQ (PGo.after HO2.out HSb.out hO3 hS3 (.cells #[.int .i64 v',.int .i64 b] 3))
       clear hs3 hO3 hS3
       go_wp2_with fail
       (with_reducible refine (HAD.out _ _ _ HS3.out).mono ?_)
       rintro e u4 hg
       have HG4:=hdQ (hg.comp HOS.out.1 HOS.out.2)
       obtain ⟨rfl,q1,q2⟩:=hg
       clear q1 q2
       go_wp2_with fail
       exact ⟨rfl,HG4.out⟩
      | ok u a4 n4 =>
       obtain ⟨rfl, -⟩:=Zhs he
       rw [he] at HAD hR2
       clear he
       go_wp2_with fail
       (with_reducible refine HI1.out.mono ?_)
       rintro e u1 ⟨rfl,hb1⟩
       have HB1:=hdQ hb1
       clear hb1
       go_wp2_with fail
       (with_reducible refine (HI2.out _ HB1.out).mono ?_)
       rintro e u1 ⟨rfl,hb2⟩
       have HB2:=hdQ (Below.step hb2 HB1.out HB1.out.size)
       clear hb2 HB1
       have HB1:=HB2
       clear HB2
       go_wp2_with fail
       (with_reducible refine (HNX.out _ HB1.out).mono ?_)
       rintro e u2 ⟨v2,rfl,hs2,hO2⟩
       have HS2:=hdQ hs2
       have HO2:=qh (Only w.heap.size (B::gOf NA) w u2) ((HO.out.sub (Only.of_below HB1.out []) hOz (λx hx=>by cases hx)).sub hO2 (Nat.le_trans hOz HB1.out.size) (λx hx=>.inl (by simp at hx;simp [hx])))
       clear hs2 hO2
       go_wp2_with fail
       (with_reducible refine (HOPR.out _ HS2.out).mono ?_)
       rintro e u3 ⟨NA2,nc2,rfl,hs3,hO3,hS3⟩
       have HS3:=hdQ hs3
       have HOS:=hdQ (PGo.after HO2.out HSb.out hO3 hS3 (.cells #[.int .i64 v',.int .i64 b] 3))
       clear hs3 hO3 hS3
       go_wp2_with fail
       (with_reducible refine (HAD.out _ _ _ HS3.out).mono ?_)
       rintro e u4 hg
       have hg2:=hg.comp HOS.out.1 HOS.out.2
       obtain ⟨NA4,nc4,rfl,p1,p2,p3⟩:=hg2
       have HV4:=qh (ChInv B base TA tc Ts AA ac as_ X NA k d add R w (gk-1) u u4) ⟨a4,NA4,nc4,n4,f',p1,ha3,qo,qo,qo,hR2.symm,p2,p3⟩
       clear hg p1 p2 p3
       go_wp2_with fail
       go_roundg (gk-1)
       case measure=>omega
       case rel=>exact ⟨u,rfl,HV4.out⟩
    ·rw [show decide (pk Ts a2=[c1])=false by simp [hp1]] at HI2
     have hqo:opS add (pk Ts a2)=0:=by rw [hop];simp [hp0,hp1]
     rw [Zpb hqo] at hR
     subst hR
     clear hqo hop
     go_wp2_with fail
     (with_reducible refine HI1.out.mono ?_)
     rintro e u1 ⟨rfl,hb1⟩
     have HB1:=hdQ hb1
     clear hb1
     go_wp2_with fail
     (with_reducible refine (HI2.out _ HB1.out).mono ?_)
     rintro e u2 ⟨rfl,hb2⟩
     have HB2:=hdQ (Below.step hb2 HB1.out HB1.out.size)
     clear hb2
     go_wp2_with fail
     go_ret
     exact ⟨NA1,nc1,rfl,HS.out.step HB2.out,HO.out.sub (Only.of_below HB2.out []) hOz (λx hx=>by cases hx),HSb.out⟩
theorem opS_add (x:List UInt8):opS true x=if x=[43] then 4 else if x=[45] then 5 else 0:=by unfold opS;rw [if_pos rfl]
theorem opS_mul (x:List UInt8):opS false x=if x=[42] then 6 else if x=[47] then 7 else 0:=by unfold opS;rw [if_neg qd]
set_option maxHeartbeats 2000000 in
theorem I_bin {B base:Nat} {TA:OA} {tc:Nat} {Ts:List Zam} {AA:OA} {ac:Nat} {as_:List Zab} {n:Nat} (hk:TokK Ts) (ih:∀ m,m<n->IPc B base TA tc Ts AA ac as_ m) (add:Bool) {d a:Nat} {X:List Nat} {NA:OA} {nc:Nat} {ns:List Zac} (w:World)
  (h:Zbh w B base TA tc Ts AA ac as_ X a d NA nc ns) (ha:a<Ts.length) (hd:d<=64) (hn:mu (.bin add)+4*(Ts.length-a)<=n) :
  CL (biF add) #[.pointer (some ⟨B,0,none⟩)] w (IGo B base TA tc Ts AA ac as_ X d NA (prs Ts n (.bin add) (d+1) a ns) w):=by
 have hmf:∀ (fn:Fn) (first cap:Array Value) (w:World),(Instr.makeFunc fn first cap).run Tryz.prog w=.ok (.func fn first cap) w:=λ_ _ _ _=>rfl
 obtain ⟨h1,h2,h3⟩:=Zxc add
 obtain ⟨k,rfl⟩:∃ k,n=k+1:=⟨n-1,qo⟩
 have HOP:=qh (∀ f,f<=k->∀ (a:Nat) (NA:OA) (nc:Nat) (ns:List Zac) (wx:World),Zbh wx B base TA tc Ts AA ac as_ X a d NA nc ns->a<Ts.length->mu (opd add)+4*(Ts.length-a)<=f ->
   CL (opF add) #[.pointer (some ⟨B,0,none⟩)] wx (IGo B base TA tc Ts AA ac as_ X d NA (prs Ts f (opd add) (d+1) a ns) wx)) (λf hf a NA nc ns wx hx hax hnx=>(ih f qo).opd add wx hx hax hd hnx)
 cases add with
 | true =>
  have HC:=qh (CL 246 #[.pointer (some ⟨B,0,none⟩),.func (.func 247) #[.pointer (some ⟨B,0,none⟩)] #[],.string ⟨#[43,45]⟩,.int .i64 4,.int .i64 5] w (IGo B base TA tc Ts AA ac as_ X d NA (prs Ts (k+1) (.bin true) (d+1) a ns) w)) (Zyj hk true 43 45 4 5 opS_add qd qd qd w HOP h ha hn)
  clear h ih HOP
  show CL 196 _ w _
  cases hr:prs Ts (k+1) (.bin true) (d+1) a ns with
  | out=>rw [hr] at HC;exact absurd hr (Zbq hk.ok (k+1) (.bin true) (d+1) a ns ha hn).1
  | bad o =>
   rw [hr] at HC
   clear hr
   go_enter Tryz.func196,Tryz.ntmps196
   go_wp2_with fail
   (with_reducible refine HC.out.mono ?_)
   rintro e u hg
   have HG:=hdQ hg
   obtain ⟨rfl,q1,q2⟩:=hg
   clear q1 q2
   go_wp2_with fail
   exact ⟨rfl,HG.out⟩
  | ok v a1 n1 =>
   rw [hr] at HC
   clear hr
   go_enter Tryz.func196,Tryz.ntmps196
   go_wp2_with fail
   (with_reducible refine HC.out.mono ?_)
   rintro e u hg
   have HG:=hdQ hg
   obtain ⟨NA',nc',rfl,q1,q2,q3⟩:=hg
   clear q1 q2 q3
   go_wp2_with fail
   go_ret
   exact HG.out
 | false =>
  have HC:=qh (CL 246 #[.pointer (some ⟨B,0,none⟩),.func (.func 275) #[.pointer (some ⟨B,0,none⟩)] #[],.string ⟨#[42,47]⟩,.int .i64 6,.int .i64 7] w (IGo B base TA tc Ts AA ac as_ X d NA (prs Ts (k+1) (.bin false) (d+1) a ns) w)) (Zyj hk false 42 47 6 7 opS_mul qd qd qd w HOP h ha hn)
  clear h ih HOP
  show CL 247 _ w _
  cases hr:prs Ts (k+1) (.bin false) (d+1) a ns with
  | out=>exact absurd hr (Zbq hk.ok (k+1) (.bin false) (d+1) a ns ha hn).1
  | bad o =>
   rw [hr] at HC
   clear hr hn
   go_enter Tryz.func247,Tryz.ntmps247
   go_wp2_with fail
   (with_reducible refine HC.out.mono ?_)
   rintro e u hg
   have HG:=hdQ hg
   obtain ⟨rfl,q1,q2⟩:=hg
   clear q1 q2
   go_wp2_with fail
   exact ⟨rfl,HG.out⟩
  | ok v a1 n1 =>
   rw [hr] at HC
   clear hr hn
   go_enter Tryz.func247,Tryz.ntmps247
   go_wp2_with fail
   (with_reducible refine HC.out.mono ?_)
   rintro e u hg
   have HG:=hdQ hg
   obtain ⟨NA',nc',rfl,q1,q2,q3⟩:=hg
   clear q1 q2 q3
   go_wp2_with fail
   go_ret
   exact HG.out
theorem Zbh.app {w w':World} {B base:Nat} {TA:OA} {tc:Nat} {Ts:List Zam} {AA:OA} {ac:Nat} {as_:List Zab} {X:List Nat} {NA:OA} {nc:Nat} {ns:List Zac} {a:Nat} {dp:Int} {e:TypeId} {size n n' c' base':Nat} {xs:List Value} {PA PA':OA} (h:Zbh w B base TA tc Ts AA ac as_ (gOf PA++X) a dp NA nc ns) (ap:Za8 w base' e size PA n xs PA' n' c' w'):Zbh w' B base TA tc Ts AA ac as_ (gOf PA'++X) a dp NA nc ns :=
 ⟨(ap.2.2.1.block B h.1.lt (by have:=h.2.xlt B;cases PA<;>simp_all [gOf])).trans h.1,h.2.app ap⟩
def Zl8 (B base:Nat) (TA:OA) (tc:Nat) (Ts:List Zam) (AA:OA) (ac:Nat) (as_:List Zab) (X:List Nat) (NA:OA) (n d:Nat) (name:List UInt8) (R:PR) (w:World) (k:Nat) (l:List Int) (PA:OA) (pc:Nat) (wr:World):Prop :=
 ∃ (a1:Nat) (NA1:OA) (nc1:Nat) (n1:List Zac),Zbh wr B base TA tc Ts AA ac as_ (gOf PA++X) a1 d NA1 nc1 n1/\a1<Ts.length/\l.length<=3/\Zaj wr w.heap.size 3 1 PA l.length pc (ints l)/\Only w.heap.size (B::gOf NA) w wr/\(∀ x,x∈gOf NA1->x∈gOf NA∨w.heap.size<=x) /\
  ((pk Ts a1=[41]/\emit Ts (8,name,0,l) (a1+1) n1=R) ∨
   (∃ f s:Nat,prs Ts f (.args name l) (d+1) s n1=R/\s<Ts.length/\4+4*(Ts.length-s)<=f/\f<=n/\f<=k/\pk Ts a1≠[41]/\¬ (l=[]/\pk Ts s=[41])/\((l=[]/\s=a1)∨(l≠[]/\s=a1+1/\pk Ts a1=[44]))))
set_option maxHeartbeats 4000000 in
theorem I_call {B base:Nat} {TA:OA} {tc:Nat} {Ts:List Zam} {AA:OA} {ac:Nat} {as_:List Zab} {n:Nat} (hk:TokK Ts) (ih:∀ m,m<n->IPc B base TA tc Ts AA ac as_ m) (name:List UInt8) {d a:Nat} {X:List Nat} {NA:OA} {nc:Nat} {ns:List Zac} (w:World)
  (h:Zbh w B base TA tc Ts AA ac as_ X a d NA nc ns) (ha:a+1<Ts.length) (hd:d<=64) (hp:pk Ts a=[40]) (hn:4+4*(Ts.length-(a+1))<=n) :
  CL 290 #[.pointer (some ⟨B,0,none⟩),str name] w (IGo B base TA tc Ts AA ac as_ X d NA (prs Ts n (.args name []) (d+1) (a+1) ns) w):=by
 have hlen:=hk.len
 have hX0:=λx hx=>(h.2.xlt x hx).1
 have HX0:=hdQ hX0
 have HNE:=qh (CL 195 #[.pointer (some ⟨B,0,none⟩),.string ⟨#[40]⟩] w (Zsd B base TA tc Ts AA ac as_ X a d NA nc ns true w)) (by have:=Zjk [40] w h qo hlen qs;rw [show decide (pk Ts a=[40])=true by simp [hp]] at this;exact this)
 obtain ⟨R,hR⟩:=qv (prs Ts n (.args name []) (d+1) (a+1) ns)
 have HST:=qh (∀ u,Only w.heap.size [B] w u->Zbh u B base TA tc Ts AA ac as_ X (a+1) d NA nc ns->Zl8 B base TA tc Ts AA ac as_ X NA n d name R w n [] (some ⟨u.heap.size,0,none⟩) 0 (u.alloc (.cells #[] 3))) (λu q1 q2=>by
  have hO:Only w.heap.size (B::gOf NA) w u:=q1.mono' (λx hx=>by simp at hx;simp [hx])
  refine ⟨a+1,NA,nc,ns,q2.fresh_ _,ha,qs,Zaj.lit u #[] 0 rfl q1.size (Nat.zero_le _),hO.al q1.size _,λx hx=>.inl hx, ?_⟩
  obtain ⟨m,rfl⟩:∃ m,n=m+1:=⟨n-1,qo⟩
  by_cases hp1:pk Ts (a+1)=[41]
  ·exact .inl ⟨hp1,by rw [<- hR,Zpd hp1]⟩
  ·exact .inr ⟨m+1,a+1,hR,ha,hn,Nat.le_refl _,Nat.le_refl _,hp1,λq=>hp1 q.2,.inl ⟨rfl,rfl⟩⟩)
 rw [hR]
 clear hR hX0 h hp
 go_enter Tryz.func290,Tryz.ntmps290
 go_wp2_with fail
 (with_reducible refine HNE.out.mono ?_)
 rintro e u0 ⟨hO0,rfl,hs0⟩
 have HIV:=hdQ (HST.out u0 hO0 hs0)
 have hz0:=hO0.size
 clear hO0 hs0
 go_wp2_with fail
 go_loopg [5] n (λg p wr=>∃ (l:List Int) (PA:OA) (pc:Nat),p=.slice PA l.length pc/\Zl8 B base TA tc Ts AA ac as_ X NA n d name R w g l PA pc wr)
 case atStart=>exact ⟨[],_,0,rfl,HIV.out⟩
 case round =>
  obtain ⟨l,PA,pc,rfl,a1,NA1,nc1,n1,hst,ha1,hl3,hg,hO,hS,hc⟩:=hrel
  obtain ⟨wo,rfl⟩:=qe wr
  have HS:=hdQ hst
  have HO:=hdQ hO
  have HSb:=hdQ hS
  have HG:=hdQ hg
  have HGE:=hdQ hg.ge
  have hOz:=hO.size
  have HI:=hdQ (I_is [41] wo hst ha1 qs)
  have HI41:Hid (CR 245 #[.pointer (some ⟨B,0,none⟩),.string ⟨#[41]⟩] wo (.bool (decide (pk Ts a1=[41])))):=HI
  clear HIV HST HNE HI hst hO hS hg
  rcases hc with ⟨hp41,hR⟩|⟨f,s,hR,hs1,hf1,hf2,hf3,hn41,hnl,hls⟩
  ·rw [show decide (pk Ts a1=[41])=true by simp [hp41]] at HI41
   have hin:=Zdg hk.ok ha1 (by rw [hp41];simp)
   have HNXT:=qh (∀ wx,Bw wo wx->CL 193 #[.pointer (some ⟨B,0,none⟩)] wx λe w'=>∃ v,e=.returned v/\Zbh w' B base TA tc Ts AA ac as_ (gOf PA++X) (a1+1) d NA1 nc1 n1/\Only wx.heap.size [B] wx w') (λwx hb=>(Zqk wx (HS.out.step hb) ha1 hlen (Zuc hp41 qs)).mono (λe w' q=>⟨_,q⟩))
   have HADD:=qh (∀ wx,Zbh wx B base TA tc Ts AA ac as_ (gOf PA++X) (a1+1) d NA1 nc1 n1->Zaj wx w.heap.size 3 1 PA l.length pc (ints l)->CL 274 #[.pointer (some ⟨B,0,none⟩),Zhn 8 name 0 (.slice PA l.length pc)] wx (IGo B base TA tc Ts AA ac as_ X d NA1 R wx)) (λwx q1 q2=>by
    rw [<- hR]
    exact Zvn wx q1 qo hin hlen q2.ownS (λy hy q=>by have:=HX0.out y q;have:=q2.ge y hy;omega))
   have HGN:=qh (∀ u1 u2,Bw wo u1->Only u1.heap.size [B] u1 u2->Zaj u2 w.heap.size 3 1 PA l.length pc (ints l)) (λu1 u2 q1 q2=>(HG.out.step q1).only q2 (λx hx=>⟨(HG.out.step q1).lt x hx,λr=>by simp at r;exact (HS.out.2.xlt x (by simp [hx])).2 r⟩))
   have hRo:R ≠ .out:=by rw [<- hR];unfold emit;split<;>simp
   clear hp41 hR
   go_wp2_with fail
   (with_reducible refine HI41.out.mono ?_)
   rintro e u1 ⟨rfl,hb1⟩
   have HB1:=hdQ hb1
   clear hb1
   go_wp2_with fail
   (with_reducible refine (HNXT.out _ HB1.out).mono ?_)
   rintro e u2 ⟨v2,rfl,hs2,hO2⟩
   have HS2:=hdQ hs2
   have HG2:=hdQ (HGN.out u1 u2 HB1.out hO2)
   have HO2:=qh (Only w.heap.size (B::gOf NA) w u2) ((HO.out.sub (Only.of_below HB1.out []) hOz (λx hx=>by cases hx)).sub hO2 (Nat.le_trans hOz HB1.out.size) (λx hx=>.inl (by simp at hx;simp [hx])))
   clear hs2 hO2
   cases R with
   | out=>exact absurd rfl hRo
   | bad o =>
    go_wp2_with fail
    (with_reducible refine (HADD.out _ HS2.out HG2.out).mono ?_)
    rintro e u3 hg
    have HG3:=hdQ (hg.comp HO2.out HSb.out)
    obtain ⟨rfl,q1,q2⟩:=hg
    clear q1 q2
    go_wp2_with fail
    exact ⟨rfl,HG3.out⟩
   | ok v a4 n4 =>
    go_wp2_with fail
    (with_reducible refine (HADD.out _ HS2.out HG2.out).mono ?_)
    rintro e u3 hg
    have HG3:=hdQ (hg.comp HO2.out HSb.out)
    obtain ⟨NA',nc',rfl,q1,q2,q3⟩:=hg
    clear q1 q2 q3
    go_wp2_with fail
    go_ret
    exact HG3.out
  ·rw [show decide (pk Ts a1=[41])=false by simp [hn41]] at HI41
   obtain ⟨f',rfl⟩:∃ f',f=f'+1:=⟨f-1,qo⟩
   have HGR:=qh (∀ u2 u3,Zaj u2 w.heap.size 3 1 PA l.length pc (ints l)->Zbh u2 B base TA tc Ts AA ac as_ (gOf PA++X) s d NA1 nc1 n1->Only u2.heap.size (B::gOf NA1) u2 u3->Zaj u3 w.heap.size 3 1 PA l.length pc (ints l)) (λu2 u3 q0 q1 q2=>q0.only q2 (λx hx=>⟨q0.lt x hx,λr=>by
    rcases List.mem_cons.1 r with r|r
    ·exact (q1.2.xlt x (by simp [hx])).2 r
    ·exact (q1.2.apN x r).2.2 (by simp [hx])⟩))
   have HSX:=qh (∀ x,x∈B::gOf NA1->x∈B::gOf NA∨w.heap.size<=x) (λx hx=>by
    rcases List.mem_cons.1 hx with rfl|hx
    ·exact .inl qs
    ·exact (HSb.out x hx).imp (λq=>List.mem_cons_of_mem _ q) id)
   rcases hls with ⟨hl0,rfl⟩|⟨hl0,rfl,hp44⟩
   ·have hl1:¬ (0:Int)<l.length:=by rw [hl0];simp
    have hl1':l.length=0:=by rw [hl0];rfl
    have h3:¬ l.length=3:=qo
    have e3:((l.length:Int)==3)=false:=by rw [beq_eq_false_iff_ne];omega
    clear hl0 hn41
    have hE:=Zbq hk.ok f' (.bin true) (d+1) s n1 hs1 (by show 3+_<=f';omega)
    have HEX:=qh (∀ wx,Zbh wx B base TA tc Ts AA ac as_ (gOf PA++X) s d NA1 nc1 n1->CL 196 #[.pointer (some ⟨B,0,none⟩)] wx (IGo B base TA tc Ts AA ac as_ (gOf PA++X) d NA1 (prs Ts f' (.bin true) (d+1) s n1) wx)) (λwx hx=>I_bin hk (λm hm=>ih m qo) true wx hx hs1 hd (by show 3+_<=f';omega))
    cases hr:prs Ts f' (.bin true) (d+1) s n1 with
    | out=>exact absurd hr hE.1
    | bad o =>
     rw [Zkk hnl h3 hr] at hR
     subst hR
     rw [hr] at HEX
     clear hr hE hnl hl1'
     go_wp2_with fail
     (with_reducible refine HI41.out.mono ?_)
     rintro e u2 ⟨rfl,hb2⟩
     have HS2:=hdQ (HS.out.step hb2)
     have HO2:=qh (Only w.heap.size (B::gOf NA) w u2) (HO.out.sub (Only.of_below hb2 []) hOz (λx hx=>by cases hx))
     have HG2:=hdQ (HG.out.step hb2)
     clear hb2
     go_wp2_with fail
     (with_reducible refine (HEX.out _ HS2.out).mono ?_)
     rintro e u3 ⟨rfl,q1,q2⟩
     have Q1:=hdQ q1
     have Q2:=qh (Only w.heap.size (B::gOf NA) w u3) (HO2.out.sub q2 HO2.out.size (HSX.out))
     clear q1 q2
     go_wp2_with fail
     exact ⟨rfl,rfl,Q1.out,Q2.out⟩
    | ok v a3 n3 =>
     rw [hr] at HEX
     have h6:=hE.2 v a3 n3 hr
     have h6':s+1<=a3/\a3<Ts.length:=h6
     have HAPD:=qh (∀ (u2 u3 u4:World) (NA2:OA) (nc2:Nat) (ob:Obj) (A':OA) (c':Nat),Only w.heap.size (B::gOf NA) w u2->Zbh u3 B base TA tc Ts AA ac as_ (gOf PA++X) a3 d NA2 nc2 n3->Only u2.heap.size (B::gOf NA1) u2 u3->(∀ x,x∈gOf NA2->x∈gOf NA1∨u2.heap.size<=x) ->
       Za8 (u3.alloc ob) w.heap.size 3 1 PA l.length (ints l++ints [v]) A' (l.length+1) c' u4->Zbh u4 B base TA tc Ts AA ac as_ (gOf A'++X) a3 d NA2 nc2 n3/\Zaj u4 w.heap.size 3 1 A' (l++[v]).length c' (ints (l++[v]))/\Only w.heap.size (B::gOf NA) w u4/\(∀ x,x∈gOf NA2->x∈gOf NA∨w.heap.size<=x)) (λu2 u3 u4 NA2 nc2 ob A' c' q0 q1 q2 q3 gA=>by
      obtain ⟨r1,r2⟩:=PGo.after (B:=B) q0 HSb.out q2 q3 ob
      refine ⟨(q1.alloc ob).app gA, ?_,r1.app gA HGE.out,r2⟩
      have:=gA.1
      rw [show ints l++ints [v]=ints (l++[v]) by simp [ints]] at this
      rw [show (l++[v]).length=l.length+1 by simp]
      exact this)
     have hl2:l.length<=2:=qo
     have HL2:=hdQ hl2
     have HIX:=qh (∀ x,x≠[]->∀ (wx:World) (NA2:OA) (nc2:Nat) (Y:List Nat),Zbh wx B base TA tc Ts AA ac as_ Y a3 d NA2 nc2 n3->CR 245 #[.pointer (some ⟨B,0,none⟩),str x] wx (.bool (decide (pk Ts a3=x)))) (λx hx wx NA2 nc2 Y q=>I_is x wx q h6'.2 hx)
     by_cases hp44:pk Ts a3=[44]
     ·rw [Zki hnl h3 hr hp44] at hR
      have hin:=Zdg hk.ok h6'.2 (by rw [hp44];simp)
      have HNX:=qh (∀ (u5:World) (NA2:OA) (nc2:Nat) (A':OA) (c':Nat),Zbh u5 B base TA tc Ts AA ac as_ (gOf A'++X) a3 d NA2 nc2 n3->Zaj u5 w.heap.size 3 1 A' (l++[v]).length c' (ints (l++[v]))->Only w.heap.size (B::gOf NA) w u5->(∀ x,x∈gOf NA2->x∈gOf NA∨w.heap.size<=x)->Zl8 B base TA tc Ts AA ac as_ X NA n d name R w (gk-1) (l++[v]) A' c' u5) (λu5 NA2 nc2 A' c' q1 q2 q3 q4 =>
       ⟨a3,NA2,nc2,n3,q1,h6'.2,by simp;omega,q2,q3,q4,.inr ⟨f',a3+1,hR,hin,qo,qo,qo,(by rw [hp44];decide),(λq=>by simp at q),.inr ⟨qs,rfl,hp44⟩⟩⟩)
      have HI:=qh (∀ (wx:World) (NA2:OA) (nc2:Nat) (Y:List Nat),Zbh wx B base TA tc Ts AA ac as_ Y a3 d NA2 nc2 n3->CR 245 #[.pointer (some ⟨B,0,none⟩),.string ⟨#[44]⟩] wx (.bool true)) (λwx NA2 nc2 Y q=>by have:=HIX.out [44] qs wx NA2 nc2 Y q;rw [show decide (pk Ts a3=[44])=true by simp [hp44]] at this;exact this)
      clear hr hE hnl hl1' hp44 hR HIX
      go_wp2_with fail
      (with_reducible refine HI41.out.mono ?_)
      rintro e u2 ⟨rfl,hb2⟩
      have HS2:=hdQ (HS.out.step hb2)
      have HO2:=qh (Only w.heap.size (B::gOf NA) w u2) (HO.out.sub (Only.of_below hb2 []) hOz (λx hx=>by cases hx))
      have HG2:=hdQ (HG.out.step hb2)
      clear hb2
      go_wp2_with fail
      (with_reducible refine (HEX.out _ HS2.out).mono ?_)
      rintro e u3 ⟨NA2,nc2,rfl,hs3,hO3,hS3⟩
      have HS3:=hdQ hs3
      have HO3:=hdQ hO3
      have HS3b:=hdQ hS3
      have HG3:=hdQ (HGR.out u2 u3 HG2.out HS2.out hO3)
      have hz3:w.heap.size<=u3.heap.size:=Nat.le_trans HO2.out.size hO3.size
      clear hs3 hO3 hS3
      go_wp2_with (first|(at_builtin;refine wpA (w.heap.size) Tryz.underlying24 T.infoInt (ints l) (ints [v]) (Zc4 _) ?_ ?_ ?_;exact (gwx HG3.out);exact (ltt 1);rintro A' c' w2 gA;obtain ⟨z1,z2,z3,z4⟩:=HAPD.out _ _ _ _ _ _ _ _ HO2.out HS3.out HO3.out HS3b.out gA;have HS4:=hdQ z1;have HG4:=hdQ z2;have HO4:=hdQ z3;have HSb4:=hdQ z4;clear gA z1 z2 z3 z4)|fail)
      (with_reducible refine (HI.out _ _ _ _ HS4.out).mono ?_)
      rintro e u5 ⟨rfl,hb5⟩
      have HV5:=qh (Zl8 B base TA tc Ts AA ac as_ X NA n d name R w (gk-1) (l++[v]) A' c' u5) (HNX.out u5 NA2 nc2 A' c' (HS4.out.step hb5) (HG4.out.step hb5) (HO4.out.sub (Only.of_below hb5 []) HO4.out.size (λx hx=>by cases hx)) HSb4.out)
      clear hb5
      go_wp2_with fail
      go_roundg (gk-1)
      case measure=>omega
      case rel=>exact ⟨l++[v],_,_,by rw [List.length_append];rfl,HV5.out⟩
     ·by_cases hp41:pk Ts a3=[41]
      ·rw [Zkj hnl h3 hr hp44 hp41] at hR
       have HNX:=qh (∀ (u5:World) (NA2:OA) (nc2:Nat) (A':OA) (c':Nat),Zbh u5 B base TA tc Ts AA ac as_ (gOf A'++X) a3 d NA2 nc2 n3->Zaj u5 w.heap.size 3 1 A' (l++[v]).length c' (ints (l++[v]))->Only w.heap.size (B::gOf NA) w u5->(∀ x,x∈gOf NA2->x∈gOf NA∨w.heap.size<=x)->Zl8 B base TA tc Ts AA ac as_ X NA n d name R w (gk-1) (l++[v]) A' c' u5) (λu5 NA2 nc2 A' c' q1 q2 q3 q4 =>
        ⟨a3,NA2,nc2,n3,q1,h6'.2,by simp;omega,q2,q3,q4,.inl ⟨hp41,hR⟩⟩)
       have HI:=qh (∀ (wx:World) (NA2:OA) (nc2:Nat) (Y:List Nat),Zbh wx B base TA tc Ts AA ac as_ Y a3 d NA2 nc2 n3->CR 245 #[.pointer (some ⟨B,0,none⟩),.string ⟨#[44]⟩] wx (.bool false)) (λwx NA2 nc2 Y q=>by have:=HIX.out [44] qs wx NA2 nc2 Y q;rw [show decide (pk Ts a3=[44])=false by simp [hp44]] at this;exact this)
       have HI2:=qh (∀ (wx:World) (NA2:OA) (nc2:Nat) (Y:List Nat),Zbh wx B base TA tc Ts AA ac as_ Y a3 d NA2 nc2 n3->CR 245 #[.pointer (some ⟨B,0,none⟩),.string ⟨#[41]⟩] wx (.bool true)) (λwx NA2 nc2 Y q=>by have:=HIX.out [41] qs wx NA2 nc2 Y q;rw [show decide (pk Ts a3=[41])=true by simp [hp41]] at this;exact this)
       clear hr hE hnl hl1' hp44 hp41 hR HIX
       go_wp2_with fail
       (with_reducible refine HI41.out.mono ?_)
       rintro e u2 ⟨rfl,hb2⟩
       have HS2:=hdQ (HS.out.step hb2)
       have HO2:=qh (Only w.heap.size (B::gOf NA) w u2) (HO.out.sub (Only.of_below hb2 []) hOz (λx hx=>by cases hx))
       have HG2:=hdQ (HG.out.step hb2)
       clear hb2
       go_wp2_with fail
       (with_reducible refine (HEX.out _ HS2.out).mono ?_)
       rintro e u3 ⟨NA2,nc2,rfl,hs3,hO3,hS3⟩
       have HS3:=hdQ hs3
       have HO3:=hdQ hO3
       have HS3b:=hdQ hS3
       have HG3:=hdQ (HGR.out u2 u3 HG2.out HS2.out hO3)
       have hz3:w.heap.size<=u3.heap.size:=Nat.le_trans HO2.out.size hO3.size
       clear hs3 hO3 hS3
       go_wp2_with (first|(at_builtin;refine wpA (w.heap.size) Tryz.underlying24 T.infoInt (ints l) (ints [v]) (Zc4 _) ?_ ?_ ?_;exact (gwx HG3.out);exact (ltt 1);rintro A' c' w2 gA;obtain ⟨z1,z2,z3,z4⟩:=HAPD.out _ _ _ _ _ _ _ _ HO2.out HS3.out HO3.out HS3b.out gA;have HS4:=hdQ z1;have HG4:=hdQ z2;have HO4:=hdQ z3;have HSb4:=hdQ z4;clear gA z1 z2 z3 z4)|fail)
       (with_reducible refine (HI.out _ _ _ _ HS4.out).mono ?_)
       rintro e u5 ⟨rfl,hb5⟩
       have HB5:=hdQ hb5
       clear hb5
       go_wp2_with fail
       (with_reducible refine (HI2.out _ _ _ _ (HS4.out.step HB5.out)).mono ?_)
       rintro e u6 ⟨rfl,hb6⟩
       have HB6:=hdQ (Below.step hb6 HB5.out HB5.out.size)
       have HV5:=qh (Zl8 B base TA tc Ts AA ac as_ X NA n d name R w (gk-1) (l++[v]) A' c' u6) (HNX.out u6 NA2 nc2 A' c' (HS4.out.step HB6.out) (HG4.out.step HB6.out) (HO4.out.sub (Only.of_below HB6.out []) HO4.out.size (λx hx=>by cases hx)) HSb4.out)
       clear hb6
       go_wp2_with fail
       go_roundg (gk-1)
       case measure=>omega
       case rel=>exact ⟨l++[v],_,_,by rw [List.length_append];rfl,HV5.out⟩
      ·rw [Zkh hnl h3 hr hp44 hp41] at hR
       subst hR
       have HI:=qh (∀ (wx:World) (NA2:OA) (nc2:Nat) (Y:List Nat),Zbh wx B base TA tc Ts AA ac as_ Y a3 d NA2 nc2 n3->CR 245 #[.pointer (some ⟨B,0,none⟩),.string ⟨#[44]⟩] wx (.bool false)) (λwx NA2 nc2 Y q=>by have:=HIX.out [44] qs wx NA2 nc2 Y q;rw [show decide (pk Ts a3=[44])=false by simp [hp44]] at this;exact this)
       have HI2:=qh (∀ (wx:World) (NA2:OA) (nc2:Nat) (Y:List Nat),Zbh wx B base TA tc Ts AA ac as_ Y a3 d NA2 nc2 n3->CR 245 #[.pointer (some ⟨B,0,none⟩),.string ⟨#[41]⟩] wx (.bool false)) (λwx NA2 nc2 Y q=>by have:=HIX.out [41] qs wx NA2 nc2 Y q;rw [show decide (pk Ts a3=[41])=false by simp [hp41]] at this;exact this)
       have HNW:=qh (∀ (wx:World) (NA2:OA) (nc2:Nat) (Y:List Nat),Zbh wx B base TA tc Ts AA ac as_ Y a3 d NA2 nc2 n3->CR 192 #[.pointer (some ⟨B,0,none⟩)] wx (tkV Ts a3)) (λwx NA2 nc2 Y q=>Zoe wx q h6'.2)
       have HRJ:=qh (∀ wx,CL 194 #[.pointer (some ⟨B,0,none⟩),tkV Ts a3] wx λe w'=>e=.panicked (rej (of_ Ts a3))/\Bw wx w') (λwx=>Ze8 _ _ _ _ _ wx)
       clear hr hE hnl hl1' hp44 hp41 HIX
       generalize htk:tkV Ts a3=tv at HNW HRJ
       clear htk
       generalize of_ Ts a3=off at *
       go_wp2_with fail
       (with_reducible refine HI41.out.mono ?_)
       rintro e u2 ⟨rfl,hb2⟩
       have HS2:=hdQ (HS.out.step hb2)
       have HO2:=qh (Only w.heap.size (B::gOf NA) w u2) (HO.out.sub (Only.of_below hb2 []) hOz (λx hx=>by cases hx))
       have HG2:=hdQ (HG.out.step hb2)
       clear hb2
       go_wp2_with fail
       (with_reducible refine (HEX.out _ HS2.out).mono ?_)
       rintro e u3 ⟨NA2,nc2,rfl,hs3,hO3,hS3⟩
       have HS3:=hdQ hs3
       have HO3:=hdQ hO3
       have HS3b:=hdQ hS3
       have HG3:=hdQ (HGR.out u2 u3 HG2.out HS2.out hO3)
       have hz3:w.heap.size<=u3.heap.size:=Nat.le_trans HO2.out.size hO3.size
       clear hs3 hO3 hS3
       go_wp2_with (first|(at_builtin;refine wpA (w.heap.size) Tryz.underlying24 T.infoInt (ints l) (ints [v]) (Zc4 _) ?_ ?_ ?_;exact (gwx HG3.out);exact (ltt 1);rintro A' c' w2 gA;obtain ⟨z1,z2,z3,z4⟩:=HAPD.out _ _ _ _ _ _ _ _ HO2.out HS3.out HO3.out HS3b.out gA;have HS4:=hdQ z1;have HG4:=hdQ z2;have HO4:=hdQ z3;have HSb4:=hdQ z4;clear gA z1 z2 z3 z4)|fail)
       (with_reducible refine (HI.out _ _ _ _ HS4.out).mono ?_)
       rintro e u5 ⟨rfl,hb5⟩
       have HB5:=hdQ hb5
       clear hb5
       go_wp2_with fail
       (with_reducible refine (HI2.out _ _ _ _ (HS4.out.step HB5.out)).mono ?_)
       rintro e u6 ⟨rfl,hb6⟩
       have HB6:=hdQ (Below.step hb6 HB5.out HB5.out.size)
       clear hb6
       go_wp2_with fail
       (with_reducible refine (HNW.out _ _ _ _ (HS4.out.step HB6.out)).mono ?_)
       rintro e u7 ⟨rfl,hb7⟩
       have HB7:=hdQ (Below.step hb7 HB6.out HB6.out.size)
       clear hb7
       go_wp2_with fail
       (with_reducible refine (HRJ.out _).mono ?_)
       rintro e u8 ⟨rfl,hb8⟩
       have HB8:=hdQ (Below.step hb8 HB7.out HB7.out.size)
       clear hb8
       go_wp2_with fail
       exact ⟨rfl,rfl,(HS4.out.step HB8.out).ownD,HO4.out.sub (Only.of_below HB8.out []) HO4.out.size (λx hx=>by cases hx)⟩
   ·have hl1:(0:Int)<l.length:=by have:l.length≠0:=λq=>hl0 (List.length_eq_zero_iff.1 q);omega
    have HND:=qh (∀ wx,Bw wo wx->CL 195 #[.pointer (some ⟨B,0,none⟩),.string ⟨#[44]⟩] wx (Zsd B base TA tc Ts AA ac as_ (gOf PA++X) a1 d NA1 nc1 n1 true wx)) (λwx hb=>by have:=Zjk [44] wx (HS.out.step hb) ha1 hlen qs;rw [show decide (pk Ts a1=[44])=true by simp [hp44]] at this;exact this)
    have HG1:=qh (∀ u1 u2,Bw wo u1->Only u1.heap.size [B] u1 u2->Zaj u2 w.heap.size 3 1 PA l.length pc (ints l)) (λu1 u2 q1 q2=>(HG.out.step q1).only q2 (λx hx=>⟨(HG.out.step q1).lt x hx,λr=>by simp at r;exact (HS.out.2.xlt x (by simp [hx])).2 r⟩))
    clear hl0 hp44 hn41
    by_cases h3:l.length=3
    ·have e3:((l.length:Int)==3)=true:=by rw [h3];rfl
     rw [Zpc hnl h3] at hR
     subst hR
     have HNW:=qh (∀ wx,Zbh wx B base TA tc Ts AA ac as_ (gOf PA++X) (a1+1) d NA1 nc1 n1->CR 192 #[.pointer (some ⟨B,0,none⟩)] wx (tkV Ts (a1+1))) (λwx q=>Zoe wx q hs1)
     have HRJ:=qh (∀ wx,CL 194 #[.pointer (some ⟨B,0,none⟩),tkV Ts (a1+1)] wx λe w'=>e=.panicked (rej (of_ Ts (a1+1)))/\Bw wx w') (λwx=>Ze8 _ _ _ _ _ wx)
     clear hnl h3
     generalize htk:tkV Ts (a1+1)=tv at HNW HRJ
     clear htk
     generalize of_ Ts (a1+1)=off at *
     go_wp2_with fail
     (with_reducible refine HI41.out.mono ?_)
     rintro e u1 ⟨rfl,hb1⟩
     have HB1:=hdQ hb1
     clear hb1
     go_wp2_with fail
     (with_reducible refine (HND.out _ HB1.out).mono ?_)
     rintro e u2 ⟨hO2,rfl,hs2⟩
     have HS2:=hdQ hs2
     have HO2:=qh (Only w.heap.size (B::gOf NA) w u2) ((HO.out.sub (Only.of_below HB1.out []) hOz (λx hx=>by cases hx)).sub hO2 (Nat.le_trans hOz HB1.out.size) (λx hx=>.inl (by simp at hx;simp [hx])))
     have HG2:=qh (Zaj u2 w.heap.size 3 1 PA l.length pc (ints l)) (HG1.out u1 u2 HB1.out hO2)
     clear hs2 hO2
     go_wp2_with fail
     (with_reducible refine (HNW.out _ HS2.out).mono ?_)
     rintro e u3 ⟨rfl,hb3⟩
     have HB3:=hdQ hb3
     clear hb3
     go_wp2_with fail
     (with_reducible refine (HRJ.out _).mono ?_)
     rintro e u4 ⟨rfl,hb4⟩
     have HB4:=hdQ (Below.step hb4 HB3.out HB3.out.size)
     clear hb4
     go_wp2_with fail
     exact ⟨rfl,rfl,(HS2.out.step HB4.out).ownD,HO2.out.sub (Only.of_below HB4.out []) HO2.out.size (λx hx=>by cases hx)⟩
    ·have e3:((l.length:Int)==3)=false:=by rw [beq_eq_false_iff_ne];omega
     obtain ⟨s,hse⟩:=qv (a1+1)
     rw [hse] at hR hs1 hf1 hnl HGR
     have HND:=qh (∀ wx,Bw wo wx->CL 195 #[.pointer (some ⟨B,0,none⟩),.string ⟨#[44]⟩] wx λe w'=>Only wx.heap.size [B] wx w'/\e=.returned (.tuple #[])/\Zbh w' B base TA tc Ts AA ac as_ (gOf PA++X) s d NA1 nc1 n1) (λwx hb=>by rw [<- hse];exact HND.out wx hb)
     clear hse
     have hE:=Zbq hk.ok f' (.bin true) (d+1) s n1 hs1 (by show 3+_<=f';omega)
     have HEX:=qh (∀ wx,Zbh wx B base TA tc Ts AA ac as_ (gOf PA++X) s d NA1 nc1 n1->CL 196 #[.pointer (some ⟨B,0,none⟩)] wx (IGo B base TA tc Ts AA ac as_ (gOf PA++X) d NA1 (prs Ts f' (.bin true) (d+1) s n1) wx)) (λwx hx=>I_bin hk (λm hm=>ih m qo) true wx hx hs1 hd (by show 3+_<=f';omega))
     cases hr:prs Ts f' (.bin true) (d+1) s n1 with
     | out=>exact absurd hr hE.1
     | bad o =>
      rw [Zkk hnl h3 hr] at hR
      subst hR
      rw [hr] at HEX
      clear hr hE hnl
      go_wp2_with fail
      (with_reducible refine HI41.out.mono ?_)
      rintro e u1 ⟨rfl,hb1⟩
      have HB1:=hdQ hb1
      clear hb1
      go_wp2_with fail
      (with_reducible refine (HND.out _ HB1.out).mono ?_)
      rintro e u2 ⟨hO2,rfl,hs2⟩
      have HS2:=hdQ hs2
      have HO2:=qh (Only w.heap.size (B::gOf NA) w u2) ((HO.out.sub (Only.of_below HB1.out []) hOz (λx hx=>by cases hx)).sub hO2 (Nat.le_trans hOz HB1.out.size) (λx hx=>.inl (by simp at hx;simp [hx])))
      have HG2:=qh (Zaj u2 w.heap.size 3 1 PA l.length pc (ints l)) (HG1.out u1 u2 HB1.out hO2)
      clear hs2 hO2
      go_wp2_with fail
      (with_reducible refine (HEX.out _ HS2.out).mono ?_)
      rintro e u3 ⟨rfl,q1,q2⟩
      have Q1:=hdQ q1
      have Q2:=qh (Only w.heap.size (B::gOf NA) w u3) (HO2.out.sub q2 HO2.out.size (HSX.out))
      clear q1 q2
      go_wp2_with fail
      exact ⟨rfl,rfl,Q1.out,Q2.out⟩
     | ok v a3 n3 =>
      rw [hr] at HEX
      have h6:=hE.2 v a3 n3 hr
      have h6':s+1<=a3/\a3<Ts.length:=h6
      have HAPD:=qh (∀ (u2 u3 u4:World) (NA2:OA) (nc2:Nat) (ob:Obj) (A':OA) (c':Nat),Only w.heap.size (B::gOf NA) w u2->Zbh u3 B base TA tc Ts AA ac as_ (gOf PA++X) a3 d NA2 nc2 n3->Only u2.heap.size (B::gOf NA1) u2 u3->(∀ x,x∈gOf NA2->x∈gOf NA1∨u2.heap.size<=x) ->
        Za8 (u3.alloc ob) w.heap.size 3 1 PA l.length (ints l++ints [v]) A' (l.length+1) c' u4->Zbh u4 B base TA tc Ts AA ac as_ (gOf A'++X) a3 d NA2 nc2 n3/\Zaj u4 w.heap.size 3 1 A' (l++[v]).length c' (ints (l++[v]))/\Only w.heap.size (B::gOf NA) w u4/\(∀ x,x∈gOf NA2->x∈gOf NA∨w.heap.size<=x)) (λu2 u3 u4 NA2 nc2 ob A' c' q0 q1 q2 q3 gA=>by
       obtain ⟨r1,r2⟩:=PGo.after (B:=B) q0 HSb.out q2 q3 ob
       refine ⟨(q1.alloc ob).app gA, ?_,r1.app gA HGE.out,r2⟩
       have:=gA.1
       rw [show ints l++ints [v]=ints (l++[v]) by simp [ints]] at this
       rw [show (l++[v]).length=l.length+1 by simp]
       exact this)
      have hl2:l.length<=2:=qo
      have HL2:=hdQ hl2
      have HIX:=qh (∀ x,x≠[]->∀ (wx:World) (NA2:OA) (nc2:Nat) (Y:List Nat),Zbh wx B base TA tc Ts AA ac as_ Y a3 d NA2 nc2 n3->CR 245 #[.pointer (some ⟨B,0,none⟩),str x] wx (.bool (decide (pk Ts a3=x)))) (λx hx wx NA2 nc2 Y q=>I_is x wx q h6'.2 hx)
      by_cases hp44:pk Ts a3=[44]
      ·rw [Zki hnl h3 hr hp44] at hR
       have hin:=Zdg hk.ok h6'.2 (by rw [hp44];simp)
       have HNX:=qh (∀ (u5:World) (NA2:OA) (nc2:Nat) (A':OA) (c':Nat),Zbh u5 B base TA tc Ts AA ac as_ (gOf A'++X) a3 d NA2 nc2 n3->Zaj u5 w.heap.size 3 1 A' (l++[v]).length c' (ints (l++[v]))->Only w.heap.size (B::gOf NA) w u5->(∀ x,x∈gOf NA2->x∈gOf NA∨w.heap.size<=x)->Zl8 B base TA tc Ts AA ac as_ X NA n d name R w (gk-1) (l++[v]) A' c' u5) (λu5 NA2 nc2 A' c' q1 q2 q3 q4 =>
        ⟨a3,NA2,nc2,n3,q1,h6'.2,by simp;omega,q2,q3,q4,.inr ⟨f',a3+1,hR,hin,qo,qo,qo,(by rw [hp44];decide),(λq=>by simp at q),.inr ⟨qs,rfl,hp44⟩⟩⟩)
       have HI:=qh (∀ (wx:World) (NA2:OA) (nc2:Nat) (Y:List Nat),Zbh wx B base TA tc Ts AA ac as_ Y a3 d NA2 nc2 n3->CR 245 #[.pointer (some ⟨B,0,none⟩),.string ⟨#[44]⟩] wx (.bool true)) (λwx NA2 nc2 Y q=>by have:=HIX.out [44] qs wx NA2 nc2 Y q;rw [show decide (pk Ts a3=[44])=true by simp [hp44]] at this;exact this)
       clear hr hE hnl hp44 hR HIX
       go_wp2_with fail
       (with_reducible refine HI41.out.mono ?_)
       rintro e u1 ⟨rfl,hb1⟩
       have HB1:=hdQ hb1
       clear hb1
       go_wp2_with fail
       (with_reducible refine (HND.out _ HB1.out).mono ?_)
       rintro e u2 ⟨hO2,rfl,hs2⟩
       have HS2:=hdQ hs2
       have HO2:=qh (Only w.heap.size (B::gOf NA) w u2) ((HO.out.sub (Only.of_below HB1.out []) hOz (λx hx=>by cases hx)).sub hO2 (Nat.le_trans hOz HB1.out.size) (λx hx=>.inl (by simp at hx;simp [hx])))
       have HG2:=qh (Zaj u2 w.heap.size 3 1 PA l.length pc (ints l)) (HG1.out u1 u2 HB1.out hO2)
       clear hs2 hO2
       go_wp2_with fail
       (with_reducible refine (HEX.out _ HS2.out).mono ?_)
       rintro e u3 ⟨NA2,nc2,rfl,hs3,hO3,hS3⟩
       have HS3:=hdQ hs3
       have HO3:=hdQ hO3
       have HS3b:=hdQ hS3
       have HG3:=hdQ (HGR.out u2 u3 HG2.out HS2.out hO3)
       have hz3:w.heap.size<=u3.heap.size:=Nat.le_trans HO2.out.size hO3.size
       clear hs3 hO3 hS3
       go_wp2_with (first|(at_builtin;refine wpA (w.heap.size) Tryz.underlying24 T.infoInt (ints l) (ints [v]) (Zc4 _) ?_ ?_ ?_;exact (gwx HG3.out);exact (ltt 1);rintro A' c' w2 gA;obtain ⟨z1,z2,z3,z4⟩:=HAPD.out _ _ _ _ _ _ _ _ HO2.out HS3.out HO3.out HS3b.out gA;have HS4:=hdQ z1;have HG4:=hdQ z2;have HO4:=hdQ z3;have HSb4:=hdQ z4;clear gA z1 z2 z3 z4)|fail)
       (with_reducible refine (HI.out _ _ _ _ HS4.out).mono ?_)
       rintro e u5 ⟨rfl,hb5⟩
       have HV5:=qh (Zl8 B base TA tc Ts AA ac as_ X NA n d name R w (gk-1) (l++[v]) A' c' u5) (HNX.out u5 NA2 nc2 A' c' (HS4.out.step hb5) (HG4.out.step hb5) (HO4.out.sub (Only.of_below hb5 []) HO4.out.size (λx hx=>by cases hx)) HSb4.out)
       clear hb5
       go_wp2_with fail
       go_roundg (gk-1)
       case measure=>omega
       case rel=>exact ⟨l++[v],_,_,by rw [List.length_append];rfl,HV5.out⟩
      ·by_cases hp41:pk Ts a3=[41]
       ·rw [Zkj hnl h3 hr hp44 hp41] at hR
        have HNX:=qh (∀ (u5:World) (NA2:OA) (nc2:Nat) (A':OA) (c':Nat),Zbh u5 B base TA tc Ts AA ac as_ (gOf A'++X) a3 d NA2 nc2 n3->Zaj u5 w.heap.size 3 1 A' (l++[v]).length c' (ints (l++[v]))->Only w.heap.size (B::gOf NA) w u5->(∀ x,x∈gOf NA2->x∈gOf NA∨w.heap.size<=x)->Zl8 B base TA tc Ts AA ac as_ X NA n d name R w (gk-1) (l++[v]) A' c' u5) (λu5 NA2 nc2 A' c' q1 q2 q3 q4 =>
         ⟨a3,NA2,nc2,n3,q1,h6'.2,by simp;omega,q2,q3,q4,.inl ⟨hp41,hR⟩⟩)
        have HI:=qh (∀ (wx:World) (NA2:OA) (nc2:Nat) (Y:List Nat),Zbh wx B base TA tc Ts AA ac as_ Y a3 d NA2 nc2 n3->CR 245 #[.pointer (some ⟨B,0,none⟩),.string ⟨#[44]⟩] wx (.bool false)) (λwx NA2 nc2 Y q=>by have:=HIX.out [44] qs wx NA2 nc2 Y q;rw [show decide (pk Ts a3=[44])=false by simp [hp44]] at this;exact this)
        have HI2:=qh (∀ (wx:World) (NA2:OA) (nc2:Nat) (Y:List Nat),Zbh wx B base TA tc Ts AA ac as_ Y a3 d NA2 nc2 n3->CR 245 #[.pointer (some ⟨B,0,none⟩),.string ⟨#[41]⟩] wx (.bool true)) (λwx NA2 nc2 Y q=>by have:=HIX.out [41] qs wx NA2 nc2 Y q;rw [show decide (pk Ts a3=[41])=true by simp [hp41]] at this;exact this)
        clear hr hE hnl hp44 hp41 hR HIX
        go_wp2_with fail
        (with_reducible refine HI41.out.mono ?_)
        rintro e u1 ⟨rfl,hb1⟩
        have HB1:=hdQ hb1
        clear hb1
        go_wp2_with fail
        (with_reducible refine (HND.out _ HB1.out).mono ?_)
        rintro e u2 ⟨hO2,rfl,hs2⟩
        have HS2:=hdQ hs2
        have HO2:=qh (Only w.heap.size (B::gOf NA) w u2) ((HO.out.sub (Only.of_below HB1.out []) hOz (λx hx=>by cases hx)).sub hO2 (Nat.le_trans hOz HB1.out.size) (λx hx=>.inl (by simp at hx;simp [hx])))
        have HG2:=qh (Zaj u2 w.heap.size 3 1 PA l.length pc (ints l)) (HG1.out u1 u2 HB1.out hO2)
        clear hs2 hO2
        go_wp2_with fail
        (with_reducible refine (HEX.out _ HS2.out).mono ?_)
        rintro e u3 ⟨NA2,nc2,rfl,hs3,hO3,hS3⟩
        have HS3:=hdQ hs3
        have HO3:=hdQ hO3
        have HS3b:=hdQ hS3
        have HG3:=hdQ (HGR.out u2 u3 HG2.out HS2.out hO3)
        have hz3:w.heap.size<=u3.heap.size:=Nat.le_trans HO2.out.size hO3.size
        clear hs3 hO3 hS3
        go_wp2_with (first|(at_builtin;refine wpA (w.heap.size) Tryz.underlying24 T.infoInt (ints l) (ints [v]) (Zc4 _) ?_ ?_ ?_;exact (gwx HG3.out);exact (ltt 1);rintro A' c' w2 gA;obtain ⟨z1,z2,z3,z4⟩:=HAPD.out _ _ _ _ _ _ _ _ HO2.out HS3.out HO3.out HS3b.out gA;have HS4:=hdQ z1;have HG4:=hdQ z2;have HO4:=hdQ z3;have HSb4:=hdQ z4;clear gA z1 z2 z3 z4)|fail)
        (with_reducible refine (HI.out _ _ _ _ HS4.out).mono ?_)
        rintro e u5 ⟨rfl,hb5⟩
        have HB5:=hdQ hb5
        clear hb5
        go_wp2_with fail
        (with_reducible refine (HI2.out _ _ _ _ (HS4.out.step HB5.out)).mono ?_)
        rintro e u6 ⟨rfl,hb6⟩
        have HB6:=hdQ (Below.step hb6 HB5.out HB5.out.size)
        have HV5:=qh (Zl8 B base TA tc Ts AA ac as_ X NA n d name R w (gk-1) (l++[v]) A' c' u6) (HNX.out u6 NA2 nc2 A' c' (HS4.out.step HB6.out) (HG4.out.step HB6.out) (HO4.out.sub (Only.of_below HB6.out []) HO4.out.size (λx hx=>by cases hx)) HSb4.out)
        clear hb6
        go_wp2_with fail
        go_roundg (gk-1)
        case measure=>omega
        case rel=>exact ⟨l++[v],_,_,by rw [List.length_append];rfl,HV5.out⟩
       ·rw [Zkh hnl h3 hr hp44 hp41] at hR
        subst hR
        have HI:=qh (∀ (wx:World) (NA2:OA) (nc2:Nat) (Y:List Nat),Zbh wx B base TA tc Ts AA ac as_ Y a3 d NA2 nc2 n3->CR 245 #[.pointer (some ⟨B,0,none⟩),.string ⟨#[44]⟩] wx (.bool false)) (λwx NA2 nc2 Y q=>by have:=HIX.out [44] qs wx NA2 nc2 Y q;rw [show decide (pk Ts a3=[44])=false by simp [hp44]] at this;exact this)
        have HI2:=qh (∀ (wx:World) (NA2:OA) (nc2:Nat) (Y:List Nat),Zbh wx B base TA tc Ts AA ac as_ Y a3 d NA2 nc2 n3->CR 245 #[.pointer (some ⟨B,0,none⟩),.string ⟨#[41]⟩] wx (.bool false)) (λwx NA2 nc2 Y q=>by have:=HIX.out [41] qs wx NA2 nc2 Y q;rw [show decide (pk Ts a3=[41])=false by simp [hp41]] at this;exact this)
        have HNW:=qh (∀ (wx:World) (NA2:OA) (nc2:Nat) (Y:List Nat),Zbh wx B base TA tc Ts AA ac as_ Y a3 d NA2 nc2 n3->CR 192 #[.pointer (some ⟨B,0,none⟩)] wx (tkV Ts a3)) (λwx NA2 nc2 Y q=>Zoe wx q h6'.2)
        have HRJ:=qh (∀ wx,CL 194 #[.pointer (some ⟨B,0,none⟩),tkV Ts a3] wx λe w'=>e=.panicked (rej (of_ Ts a3))/\Bw wx w') (λwx=>Ze8 _ _ _ _ _ wx)
        clear hr hE hnl hp44 hp41 HIX
        generalize htk:tkV Ts a3=tv at HNW HRJ
        clear htk
        generalize of_ Ts a3=off at *
        go_wp2_with fail
        (with_reducible refine HI41.out.mono ?_)
        rintro e u1 ⟨rfl,hb1⟩
        have HB1:=hdQ hb1
        clear hb1
        go_wp2_with fail
        (with_reducible refine (HND.out _ HB1.out).mono ?_)
        rintro e u2 ⟨hO2,rfl,hs2⟩
        have HS2:=hdQ hs2
        have HO2:=qh (Only w.heap.size (B::gOf NA) w u2) ((HO.out.sub (Only.of_below HB1.out []) hOz (λx hx=>by cases hx)).sub hO2 (Nat.le_trans hOz HB1.out.size) (λx hx=>.inl (by simp at hx;simp [hx])))
        have HG2:=qh (Zaj u2 w.heap.size 3 1 PA l.length pc (ints l)) (HG1.out u1 u2 HB1.out hO2)
        clear hs2 hO2
        go_wp2_with fail
        (with_reducible refine (HEX.out _ HS2.out).mono ?_)
        rintro e u3 ⟨NA2,nc2,rfl,hs3,hO3,hS3⟩
        have HS3:=hdQ hs3
        have HO3:=hdQ hO3
        have HS3b:=hdQ hS3
        have HG3:=hdQ (HGR.out u2 u3 HG2.out HS2.out hO3)
        have hz3:w.heap.size<=u3.heap.size:=Nat.le_trans HO2.out.size hO3.size
        clear hs3 hO3 hS3
        go_wp2_with (first|(at_builtin;refine wpA (w.heap.size) Tryz.underlying24 T.infoInt (ints l) (ints [v]) (Zc4 _) ?_ ?_ ?_;exact (gwx HG3.out);exact (ltt 1);rintro A' c' w2 gA;obtain ⟨z1,z2,z3,z4⟩:=HAPD.out _ _ _ _ _ _ _ _ HO2.out HS3.out HO3.out HS3b.out gA;have HS4:=hdQ z1;have HG4:=hdQ z2;have HO4:=hdQ z3;have HSb4:=hdQ z4;clear gA z1 z2 z3 z4)|fail)
        (with_reducible refine (HI.out _ _ _ _ HS4.out).mono ?_)
        rintro e u5 ⟨rfl,hb5⟩
        have HB5:=hdQ hb5
        clear hb5
        go_wp2_with fail
        (with_reducible refine (HI2.out _ _ _ _ (HS4.out.step HB5.out)).mono ?_)
        rintro e u6 ⟨rfl,hb6⟩
        have HB6:=hdQ (Below.step hb6 HB5.out HB5.out.size)
        clear hb6
        go_wp2_with fail
        (with_reducible refine (HNW.out _ _ _ _ (HS4.out.step HB6.out)).mono ?_)
        rintro e u7 ⟨rfl,hb7⟩
        have HB7:=hdQ (Below.step hb7 HB6.out HB6.out.size)
        clear hb7
        go_wp2_with fail
        (with_reducible refine (HRJ.out _).mono ?_)
        rintro e u8 ⟨rfl,hb8⟩
        have HB8:=hdQ (Below.step hb8 HB7.out HB7.out.size)
        clear hb8
        go_wp2_with fail
        exact ⟨rfl,rfl,(HS4.out.step HB8.out).ownD,HO4.out.sub (Only.of_below HB8.out []) HO4.out.size (λx hx=>by cases hx)⟩
theorem Zs0 {T:List Zam} {n d a:Nat} {ns:List Zac} (h:64<d):prs T (n+1) .fac d a ns=.bad (of_ T a):=by rw [prs,if_pos h]
theorem Zsy {T:List Zam} {n d a:Nat} {ns:List Zac} (h:¬ 64<d) (hp:pk T a=[45]):prs T (n+1) .fac d a ns=match prs T n .fac (d+1) (a+1) ns with | .ok v a1 n1=>emit T (3,[],0,[v]) a1 n1 | .bad o=>.bad o | .out=>.out:=by rw [prs,if_neg h,if_pos hp];rfl
theorem Zsw {T:List Zam} {n d a:Nat} {ns:List Zac} (h:¬ 64<d) (hp:pk T a=[40]):prs T (n+1) .fac d a ns=match prs T n (.bin true) (d+1) (a+1) ns with | .ok v a1 n1=>if pk T a1=[41] then .ok v (a1+1) n1 else .bad (of_ T a1) | .bad o=>.bad o | .out=>.out:=by rw [prs,if_neg h,if_neg (by rw [hp];decide),if_pos hp];rfl
theorem Zsx {T:List Zam} {n d a:Nat} {ns:List Zac} (h:¬ 64<d) (h1:pk T a≠[45]) (h2:pk T a≠[40]) (hk:kd T a=1):prs T (n+1) .fac d a ns=emit T (1,[],nm T a,[]) (a+1) ns:=by rw [prs,if_neg h,if_neg h1,if_neg h2,if_pos hk]
theorem Zsz {T:List Zam} {n d a:Nat} {ns:List Zac} (h:¬ 64<d) (h1:pk T a≠[45]) (h2:pk T a≠[40]) (hk:kd T a=2) (hq:pk T (a+1)=[40]):prs T (n+1) .fac d a ns=prs T n (.args (tx T a) []) (d+1) (a+2) ns:=by rw [prs,if_neg h,if_neg h1,if_neg h2,if_neg (by rw [hk];decide),if_pos hk,if_pos hq]
theorem Zsv {T:List Zam} {n d a:Nat} {ns:List Zac} (h:¬ 64<d) (h1:pk T a≠[45]) (h2:pk T a≠[40]) (hk:kd T a=2) (hq:pk T (a+1)≠[40]):prs T (n+1) .fac d a ns=emit T (2,tx T a,0,[]) (a+1) ns:=by rw [prs,if_neg h,if_neg h1,if_neg h2,if_neg (by rw [hk];decide),if_pos hk,if_neg hq]
theorem Zsu {T:List Zam} {n d a:Nat} {ns:List Zac} (h:¬ 64<d) (h1:pk T a≠[45]) (h2:pk T a≠[40]) (h3:kd T a≠1) (h4:kd T a≠2):prs T (n+1) .fac d a ns=.bad (of_ T a):=by rw [prs,if_neg h,if_neg h1,if_neg h2,if_neg h3,if_neg h4]
theorem S_fac0 {B base:Nat} {TA:OA} {tc:Nat} {Ts:List Zam} {AA:OA} {ac:Nat} {as_:List Zab} {n:Nat} (hk:TokK Ts) (ih:SPc B base TA tc Ts AA ac as_ n) {d a:Nat} {X:List Nat} {NA:OA} {nc:Nat} {ns:List Zac} (w:World)
  (h:Za1 w B base TA tc Ts AA ac as_ X a NA nc ns (-1)) (ha:a<Ts.length) (hd:d<=65) (hn:1+4*(Ts.length-a)<=n+1) (h64:64<d) :
  CL 227 #[.pointer (some ⟨B,0,none⟩),.int .i64 d] w (PGo B base TA tc Ts AA ac as_ X NA (prs Ts (n+1) .fac d a ns) w):=by
 rw [Zs0 h64]
 have HFL:=hdQ (Zcr w h ha)
 have HS:=hdQ h
 have h64':(64:Int)<d:=qo
 clear h h64 ih
 go_enter Tryz.func227,Tryz.ntmps227
 go_wp2_with fail
 refine HFL.out.mono ?_
 rintro e w2 ⟨rfl,rfl⟩
 go_wp2_with fail
 go_ret
 exact ⟨0,_,_,_,_,rfl,(HS.out.setBad _).1.drew,hk.off _,((Only.refl _ _ _).setCell qs _).drew⟩
theorem S_facM {B base:Nat} {TA:OA} {tc:Nat} {Ts:List Zam} {AA:OA} {ac:Nat} {as_:List Zab} {n:Nat} (hk:TokK Ts) (ih:SPc B base TA tc Ts AA ac as_ n) {d a:Nat} {X:List Nat} {NA:OA} {nc:Nat} {ns:List Zac} (w:World)
  (h:Za1 w B base TA tc Ts AA ac as_ X a NA nc ns (-1)) (ha:a<Ts.length) (hd:d<=65) (hn:1+4*(Ts.length-a)<=n+1) (h64:¬ 64<d) (hp:pk Ts a=[45]) :
  CL 227 #[.pointer (some ⟨B,0,none⟩),.int .i64 d] w (PGo B base TA tc Ts AA ac as_ X NA (prs Ts (n+1) .fac d a ns) w):=by
 have hlen:=hk.len
 have HPK:=qh (∀ (wx:World) (a1:Nat) (NA1:OA) (nc1:Nat) (n1:List Zac),Za1 wx B base TA tc Ts AA ac as_ X a1 NA1 nc1 n1 (-1)->a1<Ts.length->CR 121 #[.pointer (some ⟨B,0,none⟩)] wx (str (pk Ts a1))) (λwx a1 NA1 nc1 n1 hx h1=>Zdl wx hx h1)
 have HFL:=qh (∀ (wx:World) (a1:Nat) (NA1:OA) (nc1:Nat) (n1:List Zac),Za1 wx B base TA tc Ts AA ac as_ X a1 NA1 nc1 n1 (-1)->a1<Ts.length->CL 60 #[.pointer (some ⟨B,0,none⟩)] wx λe w'=>e=.returned (.int .i64 0)/\w'=(wx.setCell ⟨B,4,none⟩ (.int .i64 (of_ Ts a1))).drew) (λwx a1 NA1 nc1 n1 hx h1=>Zcr wx hx h1)
 obtain ⟨hB,h0,h1,_,_,_,_⟩:=h.cells
 obtain ⟨ht1,ht2,b,o,rfl,hb,hbB,t0,t1,t2,t3⟩:=h.2.tokAt ha
 have HS:=hdQ h
 unfold maxLen at ht2
 have ha':(a:Int)<Ts.length:=qo
 have hd':¬ (64:Int)<d:=qo
 have hBw:¬ B=w.heap.size:=qo
 have hin:=Zdg hk.ok ha (by rw [hp];simp)
 have hE:=Zbq hk.ok n .fac (d+1) (a+1) ns hin (by show 1+_<=n;omega)
 have HP1:=qh (∀ wx,Za1 wx B base (some ⟨b,o,none⟩) tc Ts AA ac as_ X a NA nc ns (-1)->CR 121 #[.pointer (some ⟨B,0,none⟩)] wx (.string ⟨#[45]⟩)) (λwx hx=>by have:=HPK.out wx a NA nc ns hx ha;rw [hp] at this;exact this)
 have HFA:=qh (∀ wx,Za1 wx B base (some ⟨b,o,none⟩) tc Ts AA ac as_ X (a+1) NA nc ns (-1)->CL 227 #[.pointer (some ⟨B,0,none⟩),.int .i64 ((d:Int)+1)] wx (PGo B base (some ⟨b,o,none⟩) tc Ts AA ac as_ X NA (prs Ts n .fac (d+1) (a+1) ns) wx)) (λwx hx=>by have:=ih.fac (d+1) (a+1) X NA nc ns wx hx hin qo qo;simpa using this)
 have hR0:=Zsy (n:=n) (ns:=ns) h64 hp
 obtain ⟨R,hRR⟩:=qv (prs Ts (n+1) .fac d a ns)
 rw [hRR] at hR0 ⊢
 have HR:=hdQ hR0
 clear hR0 hRR
 generalize kd Ts a=k at *
 generalize tx Ts a=x at *
 generalize nm Ts a=m at *
 generalize of_ Ts a=f at *
 clear h HPK HFL hp
 go_enter Tryz.func227,Tryz.ntmps227
 go_wp2_with fail
 go_region_held3 (λw'=>w'.cell? ⟨B,0,none⟩=some (.slice (some ⟨b,o,none⟩) Ts.length tc)/\w'.cell? ⟨B,1,none⟩=some (.int .i64 a)/\w'.cell? ⟨b,o+a*4,none⟩=some (.int .i64 k)/\w'.cell? ⟨b,o+a*4+1,none⟩=some (str x)/\w'.cell? ⟨b,o+a*4+2,none⟩=some (.int .i64 m)/\w'.cell? ⟨b,o+a*4+3,none⟩=some (.int .i64 f))
  (first|((try dsimp only);refine ⟨?_, ?_, ?_, ?_, ?_, ?_⟩<;>(go_simp;done))|go_keep)
  (fail)
 have HS1:=qh (Za1 (World.drew (w.alloc (.cells #[.int .i64 k,str x,.int .i64 m,.int .i64 f] 101))) B base (some ⟨b,o,none⟩) tc Ts AA ac as_ X a NA nc ns (-1)) (Za1.drew (Za1.alloc HS.out _))
 have HX1:=qh (Box (World.drew (w.alloc (.cells #[.int .i64 k,str x,.int .i64 m,.int .i64 f] 101))) w.heap.size [.int .i64 k,str x,.int .i64 m,.int .i64 f]) (Box.of_own (Own.drew (Own.new w 101 #[.int .i64 k,str x,.int .i64 m,.int .i64 f])))
 have HO1:=qh (Only w.heap.size (B::gOf NA) w (World.drew (w.alloc (.cells #[.int .i64 k,str x,.int .i64 m,.int .i64 f] 101)))) ((Only.refl _ _ _).al (Nat.le_refl _) _).drew
 generalize World.drew (w.alloc (.cells #[.int .i64 k,str x,.int .i64 m,.int .i64 f] 101))=w1 at *
 clear t0 t1 t2 t3 h0 h1
 go_wp2_with fail
 refine (HP1.out _ HS1.out).mono ?_
 rintro e w2 ⟨rfl,hb2⟩
 have HS2:=hdQ (HS1.out.step hb2)
 have HX2:=hdQ (HX1.out.step hb2)
 have HO2:=qh (Only w.heap.size (B::gOf NA) w w2) (HO1.out.sub (Only.of_below hb2 []) HO1.out.size (λx hx=>by cases hx))
 clear hb2
 obtain ⟨dB2,_,d12,_,_,d42,df2⟩:=HS2.out.cells
 have HSA:=qh (Za1 (w2.setCell ⟨B,1,none⟩ (.int .i64 ((a:Int)+1))) B base (some ⟨b,o,none⟩) tc Ts AA ac as_ X (a+1) NA nc ns (-1)) (by have:=HS2.out.setAt (a+1);simpa using this)
 have HOA:=qh (Only w.heap.size (B::gOf NA) w (w2.setCell ⟨B,1,none⟩ (.int .i64 ((a:Int)+1)))) (HO2.out.setCell qs _)
 clear ih
 cases hr:prs Ts n .fac (d+1) (a+1) ns with
 | out=>exact absurd hr hE.1
 | bad q =>
  rw [hr] at HFA
  have hb:=HR.out
  rw [hr] at hb
  (try dsimp only at hb)
  subst hb
  clear hr hE HR
  go_wp2_with fail
  refine (HFA.out _ HSA.out).mono ?_
  rintro e w3 hg
  have HG:=hdQ (hg.comp HOA.out (λx hx=>.inl hx))
  obtain ⟨r,b0,b1,b2,b3,rfl,hw3,hq3,hO3⟩:=hg
  have g4:=hw3.cell 4
  (try dsimp only [List.getElem?_cons_succ,List.getElem?_cons_zero] at g4)
  have HW3:=hdQ hw3
  clear hw3 hO3
  go_wp2_with fail
  go_ret
  obtain ⟨_,_,_,_,_,_,_,_,hOO⟩:=HG.out
  exact ⟨0,b0,b1,b2,b3,rfl,HW3.out,hq3,hOO⟩
 | ok v a1 n1 =>
  rw [hr] at HFA
  have h6:a+1+1<=a1/\a1<Ts.length:=hE.2 v a1 n1 hr
  have HEM:=qh (∀ (wx:World) (NA2:OA) (nc2:Nat),Za1 wx B base (some ⟨b,o,none⟩) tc Ts AA ac as_ X a1 NA2 nc2 n1 (-1)->CL 176 #[.pointer (some ⟨B,0,none⟩),Zhn 3 [] 0 (.slice (some ⟨wx.heap.size,0,none⟩) 1 1)] (wx.alloc (.cells #[.int .i64 v] 3)) (PGo B base (some ⟨b,o,none⟩) tc Ts AA ac as_ X NA2 (emit Ts (3,[],0,[v]) a1 n1) (wx.alloc (.cells #[.int .i64 v] 3)))) (λwx NA2 nc2 hx =>
   Zgp (args:=[v]) _ (hx.fresh_ _) qo h6.2 hlen hk.off (Zdb.some_ (Own.new wx 3 #[.int .i64 v]) rfl qs) (λy hy=>by
    obtain rfl:y=wx.heap.size:=by simpa [gOf] using hy
    exact λq=>by have:=(hx.2.xlt _ q).1;omega))
  have hb:=HR.out
  rw [hr] at hb
  (try dsimp only at hb)
  rw [<- hb] at HEM
  clear hr hE hb HR
  go_wp2_with fail
  refine (HFA.out _ HSA.out).mono ?_
  rintro e w3 ⟨NA3,nc3,rfl,hs3,hO3,hS3⟩
  have g4:=hs3.cells.2.2.2.2.2.1
  have HS3:=hdQ hs3
  have HOS:=hdQ (PGo.after HOA.out (λx hx=>.inl hx) hO3 hS3 (.cells #[.int .i64 v] 3))
  clear hs3 hO3 hS3
  go_wp2_with fail
  refine (HEM.out _ _ _ HS3.out).mono ?_
  rintro e w4 hg
  obtain ⟨v4,rfl⟩:=hg.ret
  have HG:=hdQ (hg.comp HOS.out.1 HOS.out.2)
  clear hg
  go_wp2_with fail
  go_ret
  exact HG.out
theorem S_facP {B base:Nat} {TA:OA} {tc:Nat} {Ts:List Zam} {AA:OA} {ac:Nat} {as_:List Zab} {n:Nat} (hk:TokK Ts) (ih:SPc B base TA tc Ts AA ac as_ n) {d a:Nat} {X:List Nat} {NA:OA} {nc:Nat} {ns:List Zac} (w:World)
  (h:Za1 w B base TA tc Ts AA ac as_ X a NA nc ns (-1)) (ha:a<Ts.length) (hd:d<=65) (hn:1+4*(Ts.length-a)<=n+1) (h64:¬ 64<d) (hp:pk Ts a=[40]) :
  CL 227 #[.pointer (some ⟨B,0,none⟩),.int .i64 d] w (PGo B base TA tc Ts AA ac as_ X NA (prs Ts (n+1) .fac d a ns) w):=by
 have hlen:=hk.len
 have HPK:=qh (∀ (wx:World) (a1:Nat) (NA1:OA) (nc1:Nat) (n1:List Zac),Za1 wx B base TA tc Ts AA ac as_ X a1 NA1 nc1 n1 (-1)->a1<Ts.length->CR 121 #[.pointer (some ⟨B,0,none⟩)] wx (str (pk Ts a1))) (λwx a1 NA1 nc1 n1 hx h1=>Zdl wx hx h1)
 have HFL:=qh (∀ (wx:World) (a1:Nat) (NA1:OA) (nc1:Nat) (n1:List Zac),Za1 wx B base TA tc Ts AA ac as_ X a1 NA1 nc1 n1 (-1)->a1<Ts.length->CL 60 #[.pointer (some ⟨B,0,none⟩)] wx λe w'=>e=.returned (.int .i64 0)/\w'=(wx.setCell ⟨B,4,none⟩ (.int .i64 (of_ Ts a1))).drew) (λwx a1 NA1 nc1 n1 hx h1=>Zcr wx hx h1)
 obtain ⟨hB,h0,h1,_,_,_,_⟩:=h.cells
 obtain ⟨ht1,ht2,b,o,rfl,hb,hbB,t0,t1,t2,t3⟩:=h.2.tokAt ha
 have HS:=hdQ h
 unfold maxLen at ht2
 have ha':(a:Int)<Ts.length:=qo
 have hd':¬ (64:Int)<d:=qo
 have hBw:¬ B=w.heap.size:=qo
 have hin:=Zdg hk.ok ha (by rw [hp];simp)
 have hE:=Zbq hk.ok n (.bin true) (d+1) (a+1) ns hin (by show 3+_<=n;omega)
 have HP1:=qh (∀ wx,Za1 wx B base (some ⟨b,o,none⟩) tc Ts AA ac as_ X a NA nc ns (-1)->CR 121 #[.pointer (some ⟨B,0,none⟩)] wx (.string ⟨#[40]⟩)) (λwx hx=>by have:=HPK.out wx a NA nc ns hx ha;rw [hp] at this;exact this)
 have HXP:=qh (∀ (wx:World) (a1:Nat) (NA1:OA) (nc1:Nat) (n1:List Zac),Za1 wx B base (some ⟨b,o,none⟩) tc Ts AA ac as_ X a1 NA1 nc1 n1 (-1)->a1<Ts.length->CL 61 #[.pointer (some ⟨B,0,none⟩),.string ⟨#[41]⟩] wx (Zyd B base (some ⟨b,o,none⟩) tc Ts AA ac as_ X a1 NA1 nc1 n1 (decide (pk Ts a1=[41])) wx)) (λwx a1 NA1 nc1 n1 hx h1=>Zf2 [41] wx hx h1 hlen)
 have HEX:=qh (∀ wx,Za1 wx B base (some ⟨b,o,none⟩) tc Ts AA ac as_ X (a+1) NA nc ns (-1)->CL 62 #[.pointer (some ⟨B,0,none⟩),.int .i64 ((d:Int)+1)] wx (PGo B base (some ⟨b,o,none⟩) tc Ts AA ac as_ X NA (prs Ts n (.bin true) (d+1) (a+1) ns) wx)) (λwx hx=>by have:=Zep ih (d:=d+1) wx hx hin qo qo;simpa using this)
 have hR0:=Zsw (n:=n) (ns:=ns) h64 hp
 obtain ⟨R,hRR⟩:=qv (prs Ts (n+1) .fac d a ns)
 rw [hRR] at hR0 ⊢
 have HR:=hdQ hR0
 clear hR0 hRR
 generalize kd Ts a=k at *
 generalize tx Ts a=x at *
 generalize nm Ts a=m at *
 generalize of_ Ts a=f at *
 clear h HPK HFL hp
 go_enter Tryz.func227,Tryz.ntmps227
 go_wp2_with fail
 go_region_held3 (λw'=>w'.cell? ⟨B,0,none⟩=some (.slice (some ⟨b,o,none⟩) Ts.length tc)/\w'.cell? ⟨B,1,none⟩=some (.int .i64 a)/\w'.cell? ⟨b,o+a*4,none⟩=some (.int .i64 k)/\w'.cell? ⟨b,o+a*4+1,none⟩=some (str x)/\w'.cell? ⟨b,o+a*4+2,none⟩=some (.int .i64 m)/\w'.cell? ⟨b,o+a*4+3,none⟩=some (.int .i64 f))
  (first|((try dsimp only);refine ⟨?_, ?_, ?_, ?_, ?_, ?_⟩<;>(go_simp;done))|go_keep)
  (fail)
 have HS1:=qh (Za1 (World.drew (w.alloc (.cells #[.int .i64 k,str x,.int .i64 m,.int .i64 f] 101))) B base (some ⟨b,o,none⟩) tc Ts AA ac as_ X a NA nc ns (-1)) (Za1.drew (Za1.alloc HS.out _))
 have HX1:=qh (Box (World.drew (w.alloc (.cells #[.int .i64 k,str x,.int .i64 m,.int .i64 f] 101))) w.heap.size [.int .i64 k,str x,.int .i64 m,.int .i64 f]) (Box.of_own (Own.drew (Own.new w 101 #[.int .i64 k,str x,.int .i64 m,.int .i64 f])))
 have HO1:=qh (Only w.heap.size (B::gOf NA) w (World.drew (w.alloc (.cells #[.int .i64 k,str x,.int .i64 m,.int .i64 f] 101)))) ((Only.refl _ _ _).al (Nat.le_refl _) _).drew
 generalize World.drew (w.alloc (.cells #[.int .i64 k,str x,.int .i64 m,.int .i64 f] 101))=w1 at *
 clear t0 t1 t2 t3 h0 h1
 go_wp2_with fail
 refine (HP1.out _ HS1.out).mono ?_
 rintro e w2 ⟨rfl,hb2⟩
 have HS2:=hdQ (HS1.out.step hb2)
 have HX2:=hdQ (HX1.out.step hb2)
 have HO2:=qh (Only w.heap.size (B::gOf NA) w w2) (HO1.out.sub (Only.of_below hb2 []) HO1.out.size (λx hx=>by cases hx))
 clear hb2
 go_wp2_with fail
 refine (HP1.out _ HS2.out).mono ?_
 rintro e w3 ⟨rfl,hb3⟩
 have HS3:=hdQ (HS2.out.step hb3)
 have HX3:=hdQ (HX2.out.step hb3)
 have HO3:=qh (Only w.heap.size (B::gOf NA) w w3) (HO2.out.sub (Only.of_below hb3 []) HO2.out.size (λx hx=>by cases hx))
 clear hb3
 obtain ⟨dB3,_,d13,_,_,d43,df3⟩:=HS3.out.cells
 have HSA:=qh (Za1 (w3.setCell ⟨B,1,none⟩ (.int .i64 ((a:Int)+1))) B base (some ⟨b,o,none⟩) tc Ts AA ac as_ X (a+1) NA nc ns (-1)) (by have:=HS3.out.setAt (a+1);simpa using this)
 have HOA:=qh (Only w.heap.size (B::gOf NA) w (w3.setCell ⟨B,1,none⟩ (.int .i64 ((a:Int)+1)))) (HO3.out.setCell qs _)
 clear ih
 cases hr:prs Ts n (.bin true) (d+1) (a+1) ns with
 | out=>exact absurd hr hE.1
 | bad q =>
  rw [hr] at HEX
  have hb:=HR.out
  rw [hr] at hb
  (try dsimp only at hb)
  subst hb
  clear hr hE HR
  go_wp2_with fail
  refine (HEX.out _ HSA.out).mono ?_
  rintro e w4 hg
  have HG:=hdQ (hg.comp HOA.out (λx hx=>.inl hx))
  obtain ⟨r,b0,b1,b2,b3,rfl,hw3,hq3,hO3⟩:=hg
  have g4:=hw3.cell 4
  (try dsimp only [List.getElem?_cons_succ,List.getElem?_cons_zero] at g4)
  have HW3:=hdQ hw3
  clear hw3 hO3
  go_wp2_with fail
  go_ret
  obtain ⟨_,_,_,_,_,_,_,_,hOO⟩:=HG.out
  exact ⟨0,b0,b1,b2,b3,rfl,HW3.out,hq3,hOO⟩
 | ok v a1 n1 =>
  rw [hr] at HEX
  have h6:a+1+1<=a1/\a1<Ts.length:=hE.2 v a1 n1 hr
  have hb:=HR.out
  rw [hr] at hb
  (try dsimp only at hb)
  have HB:=hdQ hb
  clear hr hE HR hb
  go_wp2_with fail
  refine (HEX.out _ HSA.out).mono ?_
  rintro e w4 ⟨NA4,nc4,rfl,hs4,hO4,hS4⟩
  have g4:=hs4.cells.2.2.2.2.2.1
  have HX4:=hdQ (HXP.out w4 a1 NA4 nc4 n1 hs4 h6.2)
  have HOS:=hdQ (PGo.after HOA.out (λx hx=>.inl hx) hO4 hS4 (.cells #[] 3))
  have HO4:=qh (Only w.heap.size (B::gOf NA) w w4) (HOA.out.sub hO4 HOA.out.size (λx hx=>.inl hx))
  clear hs4 hO4 hS4
  by_cases hp41:pk Ts a1=[41]
  ·have hb:=HB.out
   rw [if_pos hp41] at hb
   subst hb
   rw [hp41] at HX4
   clear HXP hp41
   have HX5:=qh (CL 61 #[.pointer (some ⟨B,0,none⟩),.string ⟨#[41]⟩] w4 (Zyd B base (some ⟨b,o,none⟩) tc Ts AA ac as_ X a1 NA4 nc4 n1 true w4)) HX4.out
   clear HX4
   go_wp2_with fail
   refine HX5.out.mono ?_
   rintro e w5 ⟨rfl,hO5,hs5,_⟩
   have HS5:=hdQ (hs5 rfl)
   have HO5:=qh (Only w.heap.size (B::gOf NA) w w5) (HO4.out.sub hO5 HO4.out.size (λx hx=>.inl (by simp at hx;simp [hx])))
   clear hO5 hs5
   go_wp2_with fail
   go_ret
   exact ⟨NA4,nc4,rfl,HS5.out,HO5.out,HOS.out.2⟩
  ·have hb:=HB.out
   rw [if_neg hp41] at hb
   subst hb
   have hdf:decide (pk Ts a1=[41])=false:=by simp [hp41]
   rw [hdf] at HX4
   clear HXP hp41 hdf
   go_wp2_with fail
   refine HX4.out.mono ?_
   rintro e w5 ⟨rfl,hO5,_,hs5⟩
   obtain ⟨b0,b1,b2,b3,hw5⟩:=hs5 rfl
   have HW5:=hdQ hw5
   have HO5:=qh (Only w.heap.size (B::gOf NA) w w5) (HO4.out.sub hO5 HO4.out.size (λx hx=>.inl (by simp at hx;simp [hx])))
   clear hO5 hs5 hw5
   go_wp2_with fail
   go_ret
   exact ⟨0,b0,b1,b2,b3,rfl,HW5.out,hk.off _,HO5.out⟩
theorem S_facN {B base:Nat} {TA:OA} {tc:Nat} {Ts:List Zam} {AA:OA} {ac:Nat} {as_:List Zab} {n:Nat} (hk:TokK Ts) (ih:SPc B base TA tc Ts AA ac as_ n) {d a:Nat} {X:List Nat} {NA:OA} {nc:Nat} {ns:List Zac} (w:World)
  (h:Za1 w B base TA tc Ts AA ac as_ X a NA nc ns (-1)) (ha:a<Ts.length) (hd:d<=65) (hn:1+4*(Ts.length-a)<=n+1) (h64:¬ 64<d) (h45:pk Ts a≠[45]) (h40:pk Ts a≠[40]) (hk1:kd Ts a=1) :
  CL 227 #[.pointer (some ⟨B,0,none⟩),.int .i64 d] w (PGo B base TA tc Ts AA ac as_ X NA (prs Ts (n+1) .fac d a ns) w):=by
 have hlen:=hk.len
 have HPK:=qh (∀ (wx:World) (a1:Nat) (NA1:OA) (nc1:Nat) (n1:List Zac),Za1 wx B base TA tc Ts AA ac as_ X a1 NA1 nc1 n1 (-1)->a1<Ts.length->CR 121 #[.pointer (some ⟨B,0,none⟩)] wx (str (pk Ts a1))) (λwx a1 NA1 nc1 n1 hx h1=>Zdl wx hx h1)
 have HFL:=qh (∀ (wx:World) (a1:Nat) (NA1:OA) (nc1:Nat) (n1:List Zac),Za1 wx B base TA tc Ts AA ac as_ X a1 NA1 nc1 n1 (-1)->a1<Ts.length->CL 60 #[.pointer (some ⟨B,0,none⟩)] wx λe w'=>e=.returned (.int .i64 0)/\w'=(wx.setCell ⟨B,4,none⟩ (.int .i64 (of_ Ts a1))).drew) (λwx a1 NA1 nc1 n1 hx h1=>Zcr wx hx h1)
 obtain ⟨hB,h0,h1,_,_,_,_⟩:=h.cells
 obtain ⟨ht1,ht2,b,o,rfl,hb,hbB,t0,t1,t2,t3⟩:=h.2.tokAt ha
 have HS:=hdQ h
 unfold maxLen at ht2
 have ha':(a:Int)<Ts.length:=qo
 have hd':¬ (64:Int)<d:=qo
 have hBw:¬ B=w.heap.size:=qo
 have e1:(pk Ts a==[45])=false:=by simpa using h45
 have e2:(pk Ts a==[40])=false:=by simpa using h40
 have HP1:=qh (∀ wx,Za1 wx B base (some ⟨b,o,none⟩) tc Ts AA ac as_ X a NA nc ns (-1)->CR 121 #[.pointer (some ⟨B,0,none⟩)] wx (str (pk Ts a))) (λwx hx=>HPK.out wx a NA nc ns hx ha)
 have hin:=Zjn hk.ok ha (by rw [hk1];decide)
 have HR:=hdQ (Zsx (n:=n) (ns:=ns) h64 h45 h40 hk1)
 rw [HR.out]
 have HEM:=qh (∀ (wx:World),Za1 wx B base (some ⟨b,o,none⟩) tc Ts AA ac as_ X (a+1) NA nc ns (-1)->CL 176 #[.pointer (some ⟨B,0,none⟩),Zhn 1 [] (nm Ts a) (.slice none 0 0)] wx (PGo B base (some ⟨b,o,none⟩) tc Ts AA ac as_ X NA (emit Ts (1,[],nm Ts a,[]) (a+1) ns) wx)) (λwx hx =>
  Zgp (args:=[]) (A:=none) wx hx qo hin hlen hk.off (Zdb.none_ _ _ _) (λy hy=>by simp [gOf] at hy))
 have HKD:=hdQ hk1
 rw [hk1] at t0
 clear hk1 h45 h40
 have hk1:(1:Int)=1:=rfl
 obtain ⟨k,hkk⟩:∃ k:Int,k=1:=⟨1,rfl⟩
 rw [<- hkk] at t0
 have HKK:=hdQ hkk
 clear hkk
 generalize emit Ts (1,[],nm Ts a,[]) (a+1) ns=r at *
 generalize tx Ts a=x at *
 generalize nm Ts a=m at *
 generalize of_ Ts a=f at *
 generalize pk Ts a=y at *
 clear h HPK HFL HR ih HKD
 go_enter Tryz.func227,Tryz.ntmps227
 go_wp2_with fail
 go_region_held3 (λw'=>w'.cell? ⟨B,0,none⟩=some (.slice (some ⟨b,o,none⟩) Ts.length tc)/\w'.cell? ⟨B,1,none⟩=some (.int .i64 a)/\w'.cell? ⟨b,o+a*4,none⟩=some (.int .i64 k)/\w'.cell? ⟨b,o+a*4+1,none⟩=some (str x)/\w'.cell? ⟨b,o+a*4+2,none⟩=some (.int .i64 m)/\w'.cell? ⟨b,o+a*4+3,none⟩=some (.int .i64 f))
  (first|((try dsimp only);refine ⟨?_, ?_, ?_, ?_, ?_, ?_⟩<;>(go_simp;done))|go_keep)
  (fail)
 have HS1:=qh (Za1 (World.drew (w.alloc (.cells #[.int .i64 k,str x,.int .i64 m,.int .i64 f] 101))) B base (some ⟨b,o,none⟩) tc Ts AA ac as_ X a NA nc ns (-1)) (Za1.drew (Za1.alloc HS.out _))
 have HX1:=qh (Box (World.drew (w.alloc (.cells #[.int .i64 k,str x,.int .i64 m,.int .i64 f] 101))) w.heap.size [.int .i64 k,str x,.int .i64 m,.int .i64 f]) (Box.of_own (Own.drew (Own.new w 101 #[.int .i64 k,str x,.int .i64 m,.int .i64 f])))
 have HO1:=qh (Only w.heap.size (B::gOf NA) w (World.drew (w.alloc (.cells #[.int .i64 k,str x,.int .i64 m,.int .i64 f] 101)))) ((Only.refl _ _ _).al (Nat.le_refl _) _).drew
 generalize World.drew (w.alloc (.cells #[.int .i64 k,str x,.int .i64 m,.int .i64 f] 101))=w1 at *
 clear t0 t1 t2 t3 h0 h1
 go_wp2_with fail
 refine (HP1.out _ HS1.out).mono ?_
 rintro e w2 ⟨rfl,hb2⟩
 have HS2:=hdQ (HS1.out.step hb2)
 have HX2:=hdQ (HX1.out.step hb2)
 have HO2:=qh (Only w.heap.size (B::gOf NA) w w2) (HO1.out.sub (Only.of_below hb2 []) HO1.out.size (λx hx=>by cases hx))
 clear hb2
 go_wp2_with fail
 refine (HP1.out _ HS2.out).mono ?_
 rintro e w3 ⟨rfl,hb3⟩
 have HS3:=hdQ (HS2.out.step hb3)
 have HX3:=hdQ (HX2.out.step hb3)
 have HO3:=qh (Only w.heap.size (B::gOf NA) w w3) (HO2.out.sub (Only.of_below hb3 []) HO2.out.size (λx hx=>by cases hx))
 clear hb3
 obtain ⟨dB3,_,d13,_,_,d43,df3⟩:=HS3.out.cells
 obtain ⟨xz3,x03,x13,x23,x33⟩:=HX3.out.open4
 have hBx3:¬ w.heap.size=B:=qo
 have HSA:=qh (Za1 (w3.setCell ⟨B,1,none⟩ (.int .i64 ((a:Int)+1))) B base (some ⟨b,o,none⟩) tc Ts AA ac as_ X (a+1) NA nc ns (-1)) (by have:=HS3.out.setAt (a+1);simpa using this)
 have HOA:=qh (Only w.heap.size (B::gOf NA) w (w3.setCell ⟨B,1,none⟩ (.int .i64 ((a:Int)+1)))) (HO3.out.setCell qs _)
 obtain rfl:=HKK.out
 go_wp2_with fail
 refine (HEM.out _ HSA.out).mono ?_
 rintro e w4 hg
 obtain ⟨v4,rfl⟩:=hg.ret
 have HG:=hdQ (hg.comp HOA.out (λx hx=>.inl hx))
 clear hg
 go_wp2_with fail
 go_ret
 exact HG.out
theorem S_facC {B base:Nat} {TA:OA} {tc:Nat} {Ts:List Zam} {AA:OA} {ac:Nat} {as_:List Zab} {n:Nat} (hk:TokK Ts) (ih:SPc B base TA tc Ts AA ac as_ n) {d a:Nat} {X:List Nat} {NA:OA} {nc:Nat} {ns:List Zac} (w:World)
  (h:Za1 w B base TA tc Ts AA ac as_ X a NA nc ns (-1)) (ha:a<Ts.length) (hd:d<=65) (hn:1+4*(Ts.length-a)<=n+1) (h64:¬ 64<d) (h45:pk Ts a≠[45]) (h40:pk Ts a≠[40]) (hk1:kd Ts a=2) (hq:pk Ts (a+1)=[40]) :
  CL 227 #[.pointer (some ⟨B,0,none⟩),.int .i64 d] w (PGo B base TA tc Ts AA ac as_ X NA (prs Ts (n+1) .fac d a ns) w):=by
 have hlen:=hk.len
 have HPK:=qh (∀ (wx:World) (a1:Nat) (NA1:OA) (nc1:Nat) (n1:List Zac),Za1 wx B base TA tc Ts AA ac as_ X a1 NA1 nc1 n1 (-1)->a1<Ts.length->CR 121 #[.pointer (some ⟨B,0,none⟩)] wx (str (pk Ts a1))) (λwx a1 NA1 nc1 n1 hx h1=>Zdl wx hx h1)
 have HFL:=qh (∀ (wx:World) (a1:Nat) (NA1:OA) (nc1:Nat) (n1:List Zac),Za1 wx B base TA tc Ts AA ac as_ X a1 NA1 nc1 n1 (-1)->a1<Ts.length->CL 60 #[.pointer (some ⟨B,0,none⟩)] wx λe w'=>e=.returned (.int .i64 0)/\w'=(wx.setCell ⟨B,4,none⟩ (.int .i64 (of_ Ts a1))).drew) (λwx a1 NA1 nc1 n1 hx h1=>Zcr wx hx h1)
 obtain ⟨hB,h0,h1,_,_,_,_⟩:=h.cells
 obtain ⟨ht1,ht2,b,o,rfl,hb,hbB,t0,t1,t2,t3⟩:=h.2.tokAt ha
 have HS:=hdQ h
 unfold maxLen at ht2
 have ha':(a:Int)<Ts.length:=qo
 have hd':¬ (64:Int)<d:=qo
 have hBw:¬ B=w.heap.size:=qo
 have e1:(pk Ts a==[45])=false:=by simpa using h45
 have e2:(pk Ts a==[40])=false:=by simpa using h40
 have HP1:=qh (∀ wx,Za1 wx B base (some ⟨b,o,none⟩) tc Ts AA ac as_ X a NA nc ns (-1)->CR 121 #[.pointer (some ⟨B,0,none⟩)] wx (str (pk Ts a))) (λwx hx=>HPK.out wx a NA nc ns hx ha)
 have hin:=Zjn hk.ok ha (by rw [hk1];decide)
 have hin2:=Zdg hk.ok hin (by rw [hq];simp)
 have HP2:=qh (∀ wx,Za1 wx B base (some ⟨b,o,none⟩) tc Ts AA ac as_ X (a+1) NA nc ns (-1)->CR 121 #[.pointer (some ⟨B,0,none⟩)] wx (.string ⟨#[40]⟩)) (λwx hx=>by have:=HPK.out wx (a+1) NA nc ns hx hin;rw [hq] at this;exact this)
 have HR:=hdQ (Zsz (n:=n) (ns:=ns) h64 h45 h40 hk1 hq)
 rw [HR.out]
 have HCL:=qh (∀ (wx:World),Za1 wx B base (some ⟨b,o,none⟩) tc Ts AA ac as_ X (a+2) NA nc ns (-1)->CL 264 #[.pointer (some ⟨B,0,none⟩),str (tx Ts a),.int .i64 ((d:Int)+1)] wx (PGo B base (some ⟨b,o,none⟩) tc Ts AA ac as_ X NA (prs Ts n (.args (tx Ts a) []) (d+1) (a+2) ns) wx)) (λwx hx=>by have:=ih.cal (tx Ts a) (d+1) (a+2) X NA nc ns wx hx hin2 qo qo;simpa using this)
 generalize prs Ts n (.args (tx Ts a) []) (d+1) (a+2) ns=r at *
 clear hq
 rw [hk1] at t0
 clear hk1 h45 h40
 obtain ⟨k,hkk⟩:∃ k:Int,k=2:=⟨2,rfl⟩
 rw [<- hkk] at t0
 have HKK:=hdQ hkk
 clear hkk
 generalize tx Ts a=x at *
 generalize nm Ts a=m at *
 generalize of_ Ts a=f at *
 generalize pk Ts a=y at *
 clear h HPK HFL HR ih
 go_enter Tryz.func227,Tryz.ntmps227
 go_wp2_with fail
 go_region_held3 (λw'=>w'.cell? ⟨B,0,none⟩=some (.slice (some ⟨b,o,none⟩) Ts.length tc)/\w'.cell? ⟨B,1,none⟩=some (.int .i64 a)/\w'.cell? ⟨b,o+a*4,none⟩=some (.int .i64 k)/\w'.cell? ⟨b,o+a*4+1,none⟩=some (str x)/\w'.cell? ⟨b,o+a*4+2,none⟩=some (.int .i64 m)/\w'.cell? ⟨b,o+a*4+3,none⟩=some (.int .i64 f))
  (first|((try dsimp only);refine ⟨?_, ?_, ?_, ?_, ?_, ?_⟩<;>(go_simp;done))|go_keep)
  (fail)
 have HS1:=qh (Za1 (World.drew (w.alloc (.cells #[.int .i64 k,str x,.int .i64 m,.int .i64 f] 101))) B base (some ⟨b,o,none⟩) tc Ts AA ac as_ X a NA nc ns (-1)) (Za1.drew (Za1.alloc HS.out _))
 have HX1:=qh (Box (World.drew (w.alloc (.cells #[.int .i64 k,str x,.int .i64 m,.int .i64 f] 101))) w.heap.size [.int .i64 k,str x,.int .i64 m,.int .i64 f]) (Box.of_own (Own.drew (Own.new w 101 #[.int .i64 k,str x,.int .i64 m,.int .i64 f])))
 have HO1:=qh (Only w.heap.size (B::gOf NA) w (World.drew (w.alloc (.cells #[.int .i64 k,str x,.int .i64 m,.int .i64 f] 101)))) ((Only.refl _ _ _).al (Nat.le_refl _) _).drew
 generalize World.drew (w.alloc (.cells #[.int .i64 k,str x,.int .i64 m,.int .i64 f] 101))=w1 at *
 clear t0 t1 t2 t3 h0 h1
 go_wp2_with fail
 refine (HP1.out _ HS1.out).mono ?_
 rintro e w2 ⟨rfl,hb2⟩
 have HS2:=hdQ (HS1.out.step hb2)
 have HX2:=hdQ (HX1.out.step hb2)
 have HO2:=qh (Only w.heap.size (B::gOf NA) w w2) (HO1.out.sub (Only.of_below hb2 []) HO1.out.size (λx hx=>by cases hx))
 clear hb2
 go_wp2_with fail
 refine (HP1.out _ HS2.out).mono ?_
 rintro e w3 ⟨rfl,hb3⟩
 have HS3:=hdQ (HS2.out.step hb3)
 have HX3:=hdQ (HX2.out.step hb3)
 have HO3:=qh (Only w.heap.size (B::gOf NA) w w3) (HO2.out.sub (Only.of_below hb3 []) HO2.out.size (λx hx=>by cases hx))
 clear hb3
 obtain ⟨dB3,_,d13,_,_,d43,df3⟩:=HS3.out.cells
 obtain ⟨xz3,x03,x13,x23,x33⟩:=HX3.out.open4
 have hBx3:¬ w.heap.size=B:=qo
 have HSA:=qh (Za1 (w3.setCell ⟨B,1,none⟩ (.int .i64 ((a:Int)+1))) B base (some ⟨b,o,none⟩) tc Ts AA ac as_ X (a+1) NA nc ns (-1)) (by have:=HS3.out.setAt (a+1);simpa using this)
 have HOA:=qh (Only w.heap.size (B::gOf NA) w (w3.setCell ⟨B,1,none⟩ (.int .i64 ((a:Int)+1)))) (HO3.out.setCell qs _)
 have HXA:=qh (Box (w3.setCell ⟨B,1,none⟩ (.int .i64 ((a:Int)+1))) w.heap.size [.int .i64 k,str x,.int .i64 m,.int .i64 f]) (by refine Box.mk4 (by simpa using HX3.out.1) ?_ ?_ ?_ ?_<;>(go_simp;done))
 obtain rfl:=HKK.out
 go_wp2_with fail
 refine (HP2.out _ HSA.out).mono ?_
 rintro e w4 ⟨rfl,hb4⟩
 have HS4:=hdQ (HSA.out.step hb4)
 have HX4:=hdQ (HXA.out.step hb4)
 have HO4:=qh (Only w.heap.size (B::gOf NA) w w4) (HOA.out.sub (Only.of_below hb4 []) HOA.out.size (λx hx=>by cases hx))
 clear hb4 x03 x13 x23 x33 d13 d43 df3
 obtain ⟨dB4,_,d14,_,_,d44,df4⟩:=HS4.out.cells
 obtain ⟨xz4,x04,x14,x24,x34⟩:=HX4.out.open4
 have hBx4:¬ w.heap.size=B:=qo
 have HSB:=qh (Za1 (w4.setCell ⟨B,1,none⟩ (.int .i64 ((a:Int)+1+1))) B base (some ⟨b,o,none⟩) tc Ts AA ac as_ X (a+2) NA nc ns (-1)) (by have:=HS4.out.setAt (a+2);rw [show ((a+2:Nat):Int)=(a:Int)+1+1 by omega] at this;exact this)
 have HOB:=qh (Only w.heap.size (B::gOf NA) w (w4.setCell ⟨B,1,none⟩ (.int .i64 ((a:Int)+1+1)))) (HO4.out.setCell qs _)
 rw [show ((a+1:Nat):Int)=(a:Int)+1 by omega] at d14
 have haw:IntKind.i64.wrap ((a:Int)+1+1)=(a:Int)+1+1:=IntWalk.i64_in _ qo
 go_wp2_with fail
 refine (HCL.out _ HSB.out).mono ?_
 rintro e w5 hg
 obtain ⟨v5,rfl⟩:=hg.ret
 have HG:=hdQ (hg.comp HOB.out (λx hx=>.inl hx))
 clear hg
 go_wp2_with fail
 go_ret
 exact HG.out
theorem S_facV {B base:Nat} {TA:OA} {tc:Nat} {Ts:List Zam} {AA:OA} {ac:Nat} {as_:List Zab} {n:Nat} (hk:TokK Ts) (ih:SPc B base TA tc Ts AA ac as_ n) {d a:Nat} {X:List Nat} {NA:OA} {nc:Nat} {ns:List Zac} (w:World)
  (h:Za1 w B base TA tc Ts AA ac as_ X a NA nc ns (-1)) (ha:a<Ts.length) (hd:d<=65) (hn:1+4*(Ts.length-a)<=n+1) (h64:¬ 64<d) (h45:pk Ts a≠[45]) (h40:pk Ts a≠[40]) (hk1:kd Ts a=2) (hq:pk Ts (a+1)≠[40]) :
  CL 227 #[.pointer (some ⟨B,0,none⟩),.int .i64 d] w (PGo B base TA tc Ts AA ac as_ X NA (prs Ts (n+1) .fac d a ns) w):=by
 have hlen:=hk.len
 have HPK:=qh (∀ (wx:World) (a1:Nat) (NA1:OA) (nc1:Nat) (n1:List Zac),Za1 wx B base TA tc Ts AA ac as_ X a1 NA1 nc1 n1 (-1)->a1<Ts.length->CR 121 #[.pointer (some ⟨B,0,none⟩)] wx (str (pk Ts a1))) (λwx a1 NA1 nc1 n1 hx h1=>Zdl wx hx h1)
 have HFL:=qh (∀ (wx:World) (a1:Nat) (NA1:OA) (nc1:Nat) (n1:List Zac),Za1 wx B base TA tc Ts AA ac as_ X a1 NA1 nc1 n1 (-1)->a1<Ts.length->CL 60 #[.pointer (some ⟨B,0,none⟩)] wx λe w'=>e=.returned (.int .i64 0)/\w'=(wx.setCell ⟨B,4,none⟩ (.int .i64 (of_ Ts a1))).drew) (λwx a1 NA1 nc1 n1 hx h1=>Zcr wx hx h1)
 obtain ⟨hB,h0,h1,_,_,_,_⟩:=h.cells
 obtain ⟨ht1,ht2,b,o,rfl,hb,hbB,t0,t1,t2,t3⟩:=h.2.tokAt ha
 have HS:=hdQ h
 unfold maxLen at ht2
 have ha':(a:Int)<Ts.length:=qo
 have hd':¬ (64:Int)<d:=qo
 have hBw:¬ B=w.heap.size:=qo
 have e1:(pk Ts a==[45])=false:=by simpa using h45
 have e2:(pk Ts a==[40])=false:=by simpa using h40
 have HP1:=qh (∀ wx,Za1 wx B base (some ⟨b,o,none⟩) tc Ts AA ac as_ X a NA nc ns (-1)->CR 121 #[.pointer (some ⟨B,0,none⟩)] wx (str (pk Ts a))) (λwx hx=>HPK.out wx a NA nc ns hx ha)
 have hin:=Zjn hk.ok ha (by rw [hk1];decide)
 have e3:(pk Ts (a+1)==[40])=false:=by simpa using hq
 have HP2:=qh (∀ wx,Za1 wx B base (some ⟨b,o,none⟩) tc Ts AA ac as_ X (a+1) NA nc ns (-1)->CR 121 #[.pointer (some ⟨B,0,none⟩)] wx (str (pk Ts (a+1)))) (λwx hx=>HPK.out wx (a+1) NA nc ns hx hin)
 have HR:=hdQ (Zsv (n:=n) (ns:=ns) h64 h45 h40 hk1 hq)
 rw [HR.out]
 have HEM:=qh (∀ (wx:World),Za1 wx B base (some ⟨b,o,none⟩) tc Ts AA ac as_ X (a+1) NA nc ns (-1)->CL 176 #[.pointer (some ⟨B,0,none⟩),Zhn 2 (tx Ts a) 0 (.slice none 0 0)] wx (PGo B base (some ⟨b,o,none⟩) tc Ts AA ac as_ X NA (emit Ts (2,tx Ts a,0,[]) (a+1) ns) wx)) (λwx hx =>
  Zgp (args:=[]) (A:=none) wx hx qo hin hlen hk.off (Zdb.none_ _ _ _) (λy hy=>by simp [gOf] at hy))
 generalize emit Ts (2,tx Ts a,0,[]) (a+1) ns=r at *
 generalize pk Ts (a+1)=y2 at *
 clear hq
 rw [hk1] at t0
 clear hk1 h45 h40
 obtain ⟨k,hkk⟩:∃ k:Int,k=2:=⟨2,rfl⟩
 rw [<- hkk] at t0
 have HKK:=hdQ hkk
 clear hkk
 generalize tx Ts a=x at *
 generalize nm Ts a=m at *
 generalize of_ Ts a=f at *
 generalize pk Ts a=y at *
 clear h HPK HFL HR ih
 go_enter Tryz.func227,Tryz.ntmps227
 go_wp2_with fail
 go_region_held3 (λw'=>w'.cell? ⟨B,0,none⟩=some (.slice (some ⟨b,o,none⟩) Ts.length tc)/\w'.cell? ⟨B,1,none⟩=some (.int .i64 a)/\w'.cell? ⟨b,o+a*4,none⟩=some (.int .i64 k)/\w'.cell? ⟨b,o+a*4+1,none⟩=some (str x)/\w'.cell? ⟨b,o+a*4+2,none⟩=some (.int .i64 m)/\w'.cell? ⟨b,o+a*4+3,none⟩=some (.int .i64 f))
  (first|((try dsimp only);refine ⟨?_, ?_, ?_, ?_, ?_, ?_⟩<;>(go_simp;done))|go_keep)
  (fail)
 have HS1:=qh (Za1 (World.drew (w.alloc (.cells #[.int .i64 k,str x,.int .i64 m,.int .i64 f] 101))) B base (some ⟨b,o,none⟩) tc Ts AA ac as_ X a NA nc ns (-1)) (Za1.drew (Za1.alloc HS.out _))
 have HX1:=qh (Box (World.drew (w.alloc (.cells #[.int .i64 k,str x,.int .i64 m,.int .i64 f] 101))) w.heap.size [.int .i64 k,str x,.int .i64 m,.int .i64 f]) (Box.of_own (Own.drew (Own.new w 101 #[.int .i64 k,str x,.int .i64 m,.int .i64 f])))
 have HO1:=qh (Only w.heap.size (B::gOf NA) w (World.drew (w.alloc (.cells #[.int .i64 k,str x,.int .i64 m,.int .i64 f] 101)))) ((Only.refl _ _ _).al (Nat.le_refl _) _).drew
 generalize World.drew (w.alloc (.cells #[.int .i64 k,str x,.int .i64 m,.int .i64 f] 101))=w1 at *
 clear t0 t1 t2 t3 h0 h1
 go_wp2_with fail
 refine (HP1.out _ HS1.out).mono ?_
 rintro e w2 ⟨rfl,hb2⟩
 have HS2:=hdQ (HS1.out.step hb2)
 have HX2:=hdQ (HX1.out.step hb2)
 have HO2:=qh (Only w.heap.size (B::gOf NA) w w2) (HO1.out.sub (Only.of_below hb2 []) HO1.out.size (λx hx=>by cases hx))
 clear hb2
 go_wp2_with fail
 refine (HP1.out _ HS2.out).mono ?_
 rintro e w3 ⟨rfl,hb3⟩
 have HS3:=hdQ (HS2.out.step hb3)
 have HX3:=hdQ (HX2.out.step hb3)
 have HO3:=qh (Only w.heap.size (B::gOf NA) w w3) (HO2.out.sub (Only.of_below hb3 []) HO2.out.size (λx hx=>by cases hx))
 clear hb3
 obtain ⟨dB3,_,d13,_,_,d43,df3⟩:=HS3.out.cells
 obtain ⟨xz3,x03,x13,x23,x33⟩:=HX3.out.open4
 have hBx3:¬ w.heap.size=B:=qo
 have HSA:=qh (Za1 (w3.setCell ⟨B,1,none⟩ (.int .i64 ((a:Int)+1))) B base (some ⟨b,o,none⟩) tc Ts AA ac as_ X (a+1) NA nc ns (-1)) (by have:=HS3.out.setAt (a+1);simpa using this)
 have HOA:=qh (Only w.heap.size (B::gOf NA) w (w3.setCell ⟨B,1,none⟩ (.int .i64 ((a:Int)+1)))) (HO3.out.setCell qs _)
 have HXA:=qh (Box (w3.setCell ⟨B,1,none⟩ (.int .i64 ((a:Int)+1))) w.heap.size [.int .i64 k,str x,.int .i64 m,.int .i64 f]) (by refine Box.mk4 (by simpa using HX3.out.1) ?_ ?_ ?_ ?_<;>(go_simp;done))
 obtain rfl:=HKK.out
 go_wp2_with fail
 refine (HP2.out _ HSA.out).mono ?_
 rintro e w4 ⟨rfl,hb4⟩
 have HS4:=hdQ (HSA.out.step hb4)
 have HX4:=hdQ (HXA.out.step hb4)
 have HO4:=qh (Only w.heap.size (B::gOf NA) w w4) (HOA.out.sub (Only.of_below hb4 []) HOA.out.size (λx hx=>by cases hx))
 clear hb4 x03 x13 x23 x33 d13 d43 df3
 obtain ⟨dB4,_,d14,_,_,d44,df4⟩:=HS4.out.cells
 obtain ⟨xz4,x04,x14,x24,x34⟩:=HX4.out.open4
 have hBx4:¬ w.heap.size=B:=qo
 go_wp2_with fail
 refine (HEM.out _ HS4.out).mono ?_
 rintro e w5 hg
 obtain ⟨v5,rfl⟩:=hg.ret
 have HG:=hdQ (hg.comp HO4.out (λx hx=>.inl hx))
 clear hg
 go_wp2_with fail
 go_ret
 exact HG.out
theorem S_facX {B base:Nat} {TA:OA} {tc:Nat} {Ts:List Zam} {AA:OA} {ac:Nat} {as_:List Zab} {n:Nat} (hk:TokK Ts) (ih:SPc B base TA tc Ts AA ac as_ n) {d a:Nat} {X:List Nat} {NA:OA} {nc:Nat} {ns:List Zac} (w:World)
  (h:Za1 w B base TA tc Ts AA ac as_ X a NA nc ns (-1)) (ha:a<Ts.length) (hd:d<=65) (hn:1+4*(Ts.length-a)<=n+1) (h64:¬ 64<d) (h45:pk Ts a≠[45]) (h40:pk Ts a≠[40]) (hk1:kd Ts a≠1) (hk2:kd Ts a≠2) :
  CL 227 #[.pointer (some ⟨B,0,none⟩),.int .i64 d] w (PGo B base TA tc Ts AA ac as_ X NA (prs Ts (n+1) .fac d a ns) w):=by
 have hlen:=hk.len
 have HPK:=qh (∀ (wx:World) (a1:Nat) (NA1:OA) (nc1:Nat) (n1:List Zac),Za1 wx B base TA tc Ts AA ac as_ X a1 NA1 nc1 n1 (-1)->a1<Ts.length->CR 121 #[.pointer (some ⟨B,0,none⟩)] wx (str (pk Ts a1))) (λwx a1 NA1 nc1 n1 hx h1=>Zdl wx hx h1)
 have HFL:=qh (∀ (wx:World) (a1:Nat) (NA1:OA) (nc1:Nat) (n1:List Zac),Za1 wx B base TA tc Ts AA ac as_ X a1 NA1 nc1 n1 (-1)->a1<Ts.length->CL 60 #[.pointer (some ⟨B,0,none⟩)] wx λe w'=>e=.returned (.int .i64 0)/\w'=(wx.setCell ⟨B,4,none⟩ (.int .i64 (of_ Ts a1))).drew) (λwx a1 NA1 nc1 n1 hx h1=>Zcr wx hx h1)
 obtain ⟨hB,h0,h1,_,_,_,_⟩:=h.cells
 obtain ⟨ht1,ht2,b,o,rfl,hb,hbB,t0,t1,t2,t3⟩:=h.2.tokAt ha
 have HS:=hdQ h
 unfold maxLen at ht2
 have ha':(a:Int)<Ts.length:=qo
 have hd':¬ (64:Int)<d:=qo
 have hBw:¬ B=w.heap.size:=qo
 have e1:(pk Ts a==[45])=false:=by simpa using h45
 have e2:(pk Ts a==[40])=false:=by simpa using h40
 have HP1:=qh (∀ wx,Za1 wx B base (some ⟨b,o,none⟩) tc Ts AA ac as_ X a NA nc ns (-1)->CR 121 #[.pointer (some ⟨B,0,none⟩)] wx (str (pk Ts a))) (λwx hx=>HPK.out wx a NA nc ns hx ha)
 have HR:=hdQ (Zsu (n:=n) (ns:=ns) h64 h45 h40 hk1 hk2)
 rw [HR.out]
 have HF1:=qh (∀ wx,Za1 wx B base (some ⟨b,o,none⟩) tc Ts AA ac as_ X a NA nc ns (-1)->CL 60 #[.pointer (some ⟨B,0,none⟩)] wx λe w'=>e=.returned (.int .i64 0)/\w'=(wx.setCell ⟨B,4,none⟩ (.int .i64 (of_ Ts a))).drew) (λwx hx=>HFL.out wx a NA nc ns hx ha)
 have HOF:=hdQ (hk.off a)
 have e3:(kd Ts a==1)=false:=by simpa using hk1
 have e4:(kd Ts a==2)=false:=by simpa using hk2
 clear hk1 hk2 h45 h40
 generalize kd Ts a=k at *
 generalize tx Ts a=x at *
 generalize nm Ts a=m at *
 generalize of_ Ts a=f at *
 generalize pk Ts a=y at *
 clear h HPK HFL HR ih
 go_enter Tryz.func227,Tryz.ntmps227
 go_wp2_with fail
 go_region_held3 (λw'=>w'.cell? ⟨B,0,none⟩=some (.slice (some ⟨b,o,none⟩) Ts.length tc)/\w'.cell? ⟨B,1,none⟩=some (.int .i64 a)/\w'.cell? ⟨b,o+a*4,none⟩=some (.int .i64 k)/\w'.cell? ⟨b,o+a*4+1,none⟩=some (str x)/\w'.cell? ⟨b,o+a*4+2,none⟩=some (.int .i64 m)/\w'.cell? ⟨b,o+a*4+3,none⟩=some (.int .i64 f))
  (first|((try dsimp only);refine ⟨?_, ?_, ?_, ?_, ?_, ?_⟩<;>(go_simp;done))|go_keep)
  (fail)
 have HS1:=qh (Za1 (World.drew (w.alloc (.cells #[.int .i64 k,str x,.int .i64 m,.int .i64 f] 101))) B base (some ⟨b,o,none⟩) tc Ts AA ac as_ X a NA nc ns (-1)) (Za1.drew (Za1.alloc HS.out _))
 have HX1:=qh (Box (World.drew (w.alloc (.cells #[.int .i64 k,str x,.int .i64 m,.int .i64 f] 101))) w.heap.size [.int .i64 k,str x,.int .i64 m,.int .i64 f]) (Box.of_own (Own.drew (Own.new w 101 #[.int .i64 k,str x,.int .i64 m,.int .i64 f])))
 have HO1:=qh (Only w.heap.size (B::gOf NA) w (World.drew (w.alloc (.cells #[.int .i64 k,str x,.int .i64 m,.int .i64 f] 101)))) ((Only.refl _ _ _).al (Nat.le_refl _) _).drew
 generalize World.drew (w.alloc (.cells #[.int .i64 k,str x,.int .i64 m,.int .i64 f] 101))=w1 at *
 clear t0 t1 t2 t3 h0 h1
 go_wp2_with fail
 refine (HP1.out _ HS1.out).mono ?_
 rintro e w2 ⟨rfl,hb2⟩
 have HS2:=hdQ (HS1.out.step hb2)
 have HX2:=hdQ (HX1.out.step hb2)
 have HO2:=qh (Only w.heap.size (B::gOf NA) w w2) (HO1.out.sub (Only.of_below hb2 []) HO1.out.size (λx hx=>by cases hx))
 clear hb2
 go_wp2_with fail
 refine (HP1.out _ HS2.out).mono ?_
 rintro e w3 ⟨rfl,hb3⟩
 have HS3:=hdQ (HS2.out.step hb3)
 have HX3:=hdQ (HX2.out.step hb3)
 have HO3:=qh (Only w.heap.size (B::gOf NA) w w3) (HO2.out.sub (Only.of_below hb3 []) HO2.out.size (λx hx=>by cases hx))
 clear hb3
 obtain ⟨dB3,_,d13,_,_,d43,df3⟩:=HS3.out.cells
 obtain ⟨xz3,x03,x13,x23,x33⟩:=HX3.out.open4
 have hBx3:¬ w.heap.size=B:=qo
 go_wp2_with fail
 refine (HF1.out _ HS3.out).mono ?_
 rintro e w4 ⟨rfl,rfl⟩
 go_wp2_with fail
 go_ret
 exact ⟨0,_,_,_,_,rfl,(HS3.out.setBad _).1.drew,HOF.out,(HO3.out.setCell qs _).drew⟩
theorem S_prs {B base:Nat} {TA:OA} {tc:Nat} {Ts:List Zam} {AA:OA} {ac:Nat} {as_:List Zab} (hk:TokK Ts):∀ n,SPc B base TA tc Ts AA ac as_ n:=by
 intro n
 induction n using Nat.strongRecOn with
 | ind n ih =>
  refine ⟨λadd d a X NA nc ns w h ha hd hn=>Zrt hk ih add w h ha hd hn,λd a X NA nc ns w h ha hd hn=>?_,λname d a X NA nc ns w h ha hd hn=>Zx7 hk ih name w h ha hd hn⟩
  obtain ⟨m,rfl⟩:∃ m,n=m+1:=⟨n-1,qo⟩
  have im:=ih m qo
  by_cases h64:64<d
  ·exact S_fac0 hk im w h ha hd hn h64
  by_cases h45:pk Ts a=[45]
  ·exact S_facM hk im w h ha hd hn h64 h45
  by_cases h40:pk Ts a=[40]
  ·exact S_facP hk im w h ha hd hn h64 h40
  by_cases hk1:kd Ts a=1
  ·exact S_facN hk im w h ha hd hn h64 h45 h40 hk1
  by_cases hk2:kd Ts a=2
  ·by_cases hq:pk Ts (a+1)=[40]
   ·exact S_facC hk im w h ha hd hn h64 h45 h40 hk2 hq
   ·exact S_facV hk im w h ha hd hn h64 h45 h40 hk2 hq
  ·exact S_facX hk im w h ha hd hn h64 h45 h40 hk1 hk2
theorem Zql {g B:Nat} {d:Int} (m:FrameMode) (w:World) (h1:w.cell? ⟨g,0,none⟩=some (.pointer (some ⟨B,0,none⟩))) (h2:w.cell? ⟨B,2,none⟩=some (.int .i64 d)) (h3:w.frozen? ⟨B,2,none⟩=false) :
  CallsD Tryz.prog 289 #[.pointer (some ⟨g,0,none⟩)] m w λe m' w'=>m'=m/\(e=.returned (.tuple #[])/\w.setCell ⟨B,2,none⟩ (.int .i64 (IntKind.i64.wrap (d-1)))=w'):=by
 go_enter_d Tryz.func289,Tryz.ntmps289
 go_wp2_with fail
 go_end0
 refine ⟨rfl, ?_⟩
 congr 2
 exact IntWalk.i64_left _
def CalmD (Q:Exit->Act->World->Prop) (R:Ending->World->Prop):Exit->Act->World->Prop
 | .panic c,a,w=>a.defers=[]/\R (.panicked c) w
 | e,a,w=>Q e a w
theorem Zlr {P:Program} {id:Nat} {ops:Array Oper} {b:Bool} {Q:Exit->Act->World->Prop} {R:Ending->World->Prop} {a:Act} {w:World} (hQ:∀ c a w,a.defers=[]->R (.panicked c) w->Q (.panic c) a w) (h:(Code.region id ops b).wp P (CalmD Q R) a w):(Code.region id ops b).wp P Q a w :=
 Code.wp_mono (λe a w h=>by cases e<;>first|exact h|exact hQ _ _ _ h.1 h.2) h
def FSt (w0:World) (B base:Nat) (TA:OA) (tc:Nat) (Ts:List Zam) (AA:OA) (ac:Nat) (as_:List Zab) (X:List Nat) (NA:OA) (d:Nat) (w:World) (a:Nat) (NA':OA) (nc:Nat) (ns:List Zac):Prop :=
 Zbh w B base TA tc Ts AA ac as_ (gOf (some ⟨w0.heap.size,0,none⟩)++X) a ((d+1:Nat):Int) NA' nc ns/\Own w w0.heap.size 172 [.pointer (some ⟨B,0,none⟩)]/\Only w0.heap.size (B::gOf NA) w0 w/\(∀ x,x∈gOf NA'->x∈gOf NA∨w0.heap.size<=x)
def FD (w0:World) (B:Nat) (NA:OA) (w:World):Prop:=Zvx w B/\Own w w0.heap.size 172 [.pointer (some ⟨B,0,none⟩)]/\Only w0.heap.size (B::gOf NA) w0 w/\B<w0.heap.size
section
variable {w0 w w':World} {B base:Nat} {TA:OA} {tc:Nat} {Ts:List Zam} {AA:OA} {ac:Nat} {as_:List Zab} {X:List Nat} {NA NA1 NA2:OA} {nc nc2:Nat} {ns ns2:List Zac} {a a2 d:Nat} {o:Int}
theorem FSt.start (h:Zbh w0 B base TA tc Ts AA ac as_ X a d NA nc ns):FSt w0 B base TA tc Ts AA ac as_ X NA d ((w0.setCell ⟨B,2,none⟩ (.int .i64 ((d:Int)+1))).alloc (.cells #[.pointer (some ⟨B,0,none⟩)] 172)) a NA nc ns:=by
 have hB:=h.cells.1
 have hz:(w0.setCell ⟨B,2,none⟩ (.int .i64 ((d:Int)+1))).heap.size=w0.heap.size:=by simp [World.setCell]
 refine ⟨?_, ?_, ?_,λx hx=>.inl hx⟩
 ·have:=(h.setDp ((d+1:Nat):Int)).fresh_ (.cells #[.pointer (some ⟨B,0,none⟩)] 172)
  have hz':(w0.setCell ⟨B,2,none⟩ (.int .i64 ((d+1:Nat):Int))).heap.size=w0.heap.size:=by simp [World.setCell]
  rw [hz'] at this
  have e:((d+1:Nat):Int)=(d:Int)+1:=qo
  rw [e] at this ⊢
  exact this
 ·exact Own.at_new hz.symm
 ·exact Only.al (Only.setCell (Only.refl _ _ _) qs _) (by rw [hz];exact Nat.le_refl _) _
theorem FSt.step (h:FSt w0 B base TA tc Ts AA ac as_ X NA d w a NA1 nc ns) (hb:Bw w w'):FSt w0 B base TA tc Ts AA ac as_ X NA d w' a NA1 nc ns :=
 ⟨h.1.step hb,h.2.1.step hb,h.2.2.1.sub (Only.of_below hb []) h.2.2.1.size (λx hx=>by cases hx),h.2.2.2⟩
theorem FSt.drew (h:FSt w0 B base TA tc Ts AA ac as_ X NA d w a NA1 nc ns):FSt w0 B base TA tc Ts AA ac as_ X NA d w.drew a NA1 nc ns:=⟨h.1.drew,h.2.1.drew,h.2.2.1.drew,h.2.2.2⟩
theorem FSt.blt (h:FSt w0 B base TA tc Ts AA ac as_ X NA d w a NA1 nc ns):w0.heap.size∉B::gOf NA1:=by
 intro q
 rcases List.mem_cons.1 q with r|r
 ·exact (h.1.2.xlt w0.heap.size (by simp [gOf])).2 r
 ·exact (h.1.2.apN _ r).2.2 (by simp [gOf])
theorem FSt.go (h:FSt w0 B base TA tc Ts AA ac as_ X NA d w a NA1 nc ns) (hi:Zbh w' B base TA tc Ts AA ac as_ (gOf (some ⟨w0.heap.size,0,none⟩)++X) a2 ((d+1:Nat):Int) NA2 nc2 ns2) (hO:Only w.heap.size (B::gOf NA1) w w') (hS:∀ x,x∈gOf NA2->x∈gOf NA1∨w.heap.size<=x):FSt w0 B base TA tc Ts AA ac as_ X NA d w' a2 NA2 nc2 ns2 :=
 ⟨hi,(hO.block w0.heap.size h.2.1.lt h.blt).trans h.2.1,h.2.2.1.sub hO h.2.2.1.size (λx hx=>by
  rcases List.mem_cons.1 hx with rfl|hx
  ·exact .inl qs
  ·exact (h.2.2.2 x hx).imp (λq=>List.mem_cons_of_mem _ q) id),λx hx=>by
  rcases hS x hx with q|q
  ·exact h.2.2.2 x q
  ·exact .inr (Nat.le_trans h.2.2.1.size q)⟩
theorem FSt.next (h:FSt w0 B base TA tc Ts AA ac as_ X NA d w a NA1 nc ns) (hi:Zbh w' B base TA tc Ts AA ac as_ (gOf (some ⟨w0.heap.size,0,none⟩)++X) a2 ((d+1:Nat):Int) NA1 nc ns) (hO:Only w.heap.size [B] w w'):FSt w0 B base TA tc Ts AA ac as_ X NA d w' a2 NA1 nc ns :=
 h.go hi (hO.mono' (λx hx=>by simp at hx;simp [hx])) (λx hx=>.inl hx)
theorem FSt.bad (hB:B<w0.heap.size) (h:FSt w0 B base TA tc Ts AA ac as_ X NA d w a NA1 nc ns) (hi:Zvx w' B) (hO:Only w.heap.size (B::gOf NA1) w w'):FD w0 B NA w' :=
 ⟨hi,(hO.block w0.heap.size h.2.1.lt h.blt).trans h.2.1,h.2.2.1.sub hO h.2.2.1.size (λx hx=>by
  rcases List.mem_cons.1 hx with rfl|hx
  ·exact .inl qs
  ·exact (h.2.2.2 x hx).imp (λq=>List.mem_cons_of_mem _ q) id),hB⟩
theorem FSt.fd (hB:B<w0.heap.size) (h:FSt w0 B base TA tc Ts AA ac as_ X NA d w a NA1 nc ns):FD w0 B NA w:=⟨h.1.ownD,h.2.1,h.2.2.1,hB⟩
theorem FD.step (h:FD w0 B NA w) (hb:Bw w w'):FD w0 B NA w':=⟨h.1.step hb,h.2.1.step hb,h.2.2.1.sub (Only.of_below hb []) h.2.2.1.size (λx hx=>by cases hx),h.2.2.2⟩
theorem FSt.door (h:FSt w0 B base TA tc Ts AA ac as_ X NA d w a NA1 nc ns):w.cell? ⟨w0.heap.size,0,none⟩=some (.pointer (some ⟨B,0,none⟩))/\w.cell? ⟨B,2,none⟩=some (.int .i64 ((d:Int)+1))/\w.frozen? ⟨B,2,none⟩=false :=
 ⟨h.2.1.cell 0,by have:=h.1.cells.2.2.2.1;simpa using this,h.1.cells.2.2.2.2.2.2 2⟩
theorem FD.door (h:FD w0 B NA w):w.cell? ⟨w0.heap.size,0,none⟩=some (.pointer (some ⟨B,0,none⟩))/\(∃ x:Int,w.cell? ⟨B,2,none⟩=some (.int .i64 x))/\w.frozen? ⟨B,2,none⟩=false:=by
 obtain ⟨⟨c0,c1,c3,c4,x,ho⟩,h2,_⟩:=h
 exact ⟨h2.cell 0,⟨x,ho.cell 2⟩,ho.frozen 2⟩
theorem FSt.fin {v:Int} (h:FSt w0 B base TA tc Ts AA ac as_ X NA d w a NA1 nc ns):IGo B base TA tc Ts AA ac as_ X d NA (.ok v a ns) w0 (.returned (.int .i64 v)) (w.setCell ⟨B,2,none⟩ (.int .i64 d)) :=
 ⟨NA1,nc,rfl,(h.1.setDp d).ownX (Below.refl _ _) (λy hy=>⟨by have:=(h.1.2.xlt y (by simp [hy])).1;simpa [World.setCell] using this,.inl (by simp [hy])⟩),Only.setCell h.2.2.1 qs _,h.2.2.2⟩
theorem FD.fin {x:Int} (h:FD w0 B NA w):IGo B base TA tc Ts AA ac as_ X d NA (.bad o) w0 (.panicked (rej o)) (w.setCell ⟨B,2,none⟩ (.int .i64 x)):=by
 obtain ⟨⟨c0,c1,c3,c4,y,ho⟩,h2,h3,hB⟩:=h
 exact ⟨rfl,⟨c0,c1,c3,c4,x,ho.set_ 2 _⟩,Only.setCell h3 qs _⟩
end
set_option maxHeartbeats 2000000 in
theorem I_fac0 {B base:Nat} {TA:OA} {tc:Nat} {Ts:List Zam} {AA:OA} {ac:Nat} {as_:List Zab} {k:Nat} (hk:TokK Ts) {d a:Nat} {X:List Nat} {NA:OA} {nc:Nat} {ns:List Zac} (w:World)
  (h:Zbh w B base TA tc Ts AA ac as_ X a d NA nc ns) (ha:a<Ts.length) (hd:64<d+1) (hd2:d<=64) :
  CL 275 #[.pointer (some ⟨B,0,none⟩)] w (IGo B base TA tc Ts AA ac as_ X d NA (prs Ts (k+1) .fac (d+1) a ns) w):=by
 rw [Zs0 hd]
 have hB:=h.cells.1
 have g2:=h.cells.2.2.2.1
 have gf:=h.cells.2.2.2.2.2.2
 have HF:=hdQ (FSt.start h)
 have hd':(64:Int)<(d:Int)+1:=qo
 have hw:IntKind.i64.wrap ((d:Int)+1)=(d:Int)+1:=IntWalk.i64_in _ qo
 have hBw:¬ B=w.heap.size:=qo
 have hBw2:¬ w.heap.size=B:=qo
 have HNW:=qh (∀ wx a' NA' nc' ns',FSt w B base TA tc Ts AA ac as_ X NA d wx a' NA' nc' ns'->a'<Ts.length->CR 192 #[.pointer (some ⟨B,0,none⟩)] wx (tkV Ts a')) (λwx a' NA' nc' ns' q q2=>Zoe wx q.1 q2)
 clear h
 have HRJ:=qh (∀ wx,CL 194 #[.pointer (some ⟨B,0,none⟩),tkV Ts a] wx λe w'=>e=.panicked (rej (of_ Ts a))/\Bw wx w') (λwx=>Ze8 _ _ _ _ _ wx)
 generalize htk:tkV Ts a=tv at HRJ
 have HTK:=hdQ htk
 clear htk
 generalize hof:of_ Ts a=off at *
 clear hof
 obtain ⟨u,hu⟩:=qv ((w.setCell ⟨B,2,none⟩ (.int .i64 ((d:Int)+1))).alloc (.cells #[.pointer (some ⟨B,0,none⟩)] 172))
 have HF1:=qh (FSt w B base TA tc Ts AA ac as_ X NA d u a NA nc ns) (by rw [<- hu];exact HF.out)
 obtain ⟨q0,q2,q3⟩:=HF1.out.door
 go_enter_defers Tryz.func275,Tryz.ntmps275
 go_wp2_with fail
 clear hu
 have HFd:=hdQ HF1.out.drew
 have HNWu:=hdQ (HNW.out _ _ _ _ _ HFd.out ha)
 rw [HTK.out] at HNWu
 refine Zlr (R:=IGo B base TA tc Ts AA ac as_ X d NA (.bad off) w) (λc a' w' h1 h2=>by show Leaves _ _ _ _ a'.defers _ _;rw [h1];exact h2) ?_
 refine wp_region_held_drew (S:=(λw'=>w'.cell? ⟨w.heap.size,0,none⟩=some (.pointer (some ⟨B,0,none⟩)))) kr ?_ (λhHeld=>?_)
 ·(try dsimp only);(go_simp;done)
 refine tkH 0 ?_;(try simp only [LO,Act.put])
 refine tkH 1 ?_;(try simp only [LO,Act.put])
 refine wpAnyH_ready (rs:=[2]) kr qs ?_
 refine AllReadyH.cons rfl (λK hK=>?_) AllReadyH.nil
 go_simp
 refine HNWu.out.mono ?_
 rintro e u1 ⟨rfl,hb1⟩
 have HF3:=hdQ (HFd.out.step hb1)
 obtain ⟨r0,r2,r3⟩:=HF3.out.door
 clear hb1
 (try go_wp2_with fail)
 refine hK.out _ _ r0 (λhHeld2=>?_)
 clear hK K hHeld
 (try simp only [LO,Act.put])
 refine wpAnyH_ready (rs:=[3]) kr qs ?_
 refine AllReadyH.cons rfl (λK hK=>?_) AllReadyH.nil
 go_simp
 refine (HRJ.out _).mono ?_
 rintro e u2 ⟨rfl,hb2⟩
 have HF4:=hdQ ((HF3.out.fd hB).step hb2)
 clear hb2
 exact ⟨rfl,rfl,HF4.out.1,HF4.out.2.2.1⟩
end
end Go.Proofs.YticdknjoapdmeaaGreatDoor
