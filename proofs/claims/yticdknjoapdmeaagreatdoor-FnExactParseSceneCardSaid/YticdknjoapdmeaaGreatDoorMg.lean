/- Several texts in one: ParR, ParF, ParL, SplG, PTexS, PriS. -/
import Derived.Test.YticdknjoapdmeaaGreatDoorMf
import Derived.Deep.LoopGhost
import Derived.Test.YticdknjoapdmeaaGreatDoorMc
import Derived.Test.YticdknjoapdmeaaGreatDoorMd
import Derived.Recover
set_option linter.unusedVariables false
set_option linter.unusedSimpArgs false
namespace Go.Proofs.YticdknjoapdmeaaGreatDoor
set_option maxHeartbeats 16000000
set_option maxRecDepth 100000
open Go.RowKit Go.Lib
structure TokK (Ts:List Zaq):Prop where
 ok:TokOk Ts
 off:∀ i,0<=of_ Ts i
 len:Ts.length<=1048576
section
variable {w w' w1:World} {B base:Nat} {TA:Option Addr} {tc:Nat} {Ts:List Zaq} {AA:Option Addr} {ac:Nat} {as_:List Zaa} {X:List Nat} {NA NA1:Option Addr} {nc:Nat} {ns:List Zac} {a:Nat} {bad:Int} {r:PR} {e:Ending}
theorem Za4.ownX {Y:List Nat} (h:Za4 w B base TA tc Ts AA ac as_ X a NA nc ns bad) (hb:Below w.heap.size w w') (hY:∀ y,y∈Y->y<w'.heap.size/\(y∈X∨w.heap.size<=y)):Za4 w' B base TA tc Ts AA ac as_ Y a NA nc ns bad:=⟨h.1.step hb,h.2.own hb hY⟩
theorem Za4.fresh_ (h:Za4 w B base TA tc Ts AA ac as_ X a NA nc ns bad) (o:Obj):Za4 (w.alloc o) B base TA tc Ts AA ac as_ (gOf (some ⟨w.heap.size,0,none⟩)++X) a NA nc ns bad:=h.ownX ((Below.refl _ _).alloc (Nat.le_refl _) _) (λy hy=>by
  simp only [gOf,List.mem_append,List.mem_cons,List.not_mem_nil,or_false] at hy
  rcases hy with rfl|hy
  ·exact ⟨qs,.inr (Nat.le_refl _)⟩
  ·exact ⟨by have:=(h.2.xlt y hy).1;simp;omega,.inl hy⟩)
theorem PGo.ret (h:PGo B base TA tc Ts AA ac as_ X NA r w e w'):∃ v:Int,e=.returned (.int .i64 v):=by
 cases r with
 | ok v a ns=>obtain ⟨_,_,rfl,_⟩:=h;exact ⟨_,rfl⟩
 | bad o=>obtain ⟨_,_,_,_,_,rfl,_⟩:=h;exact ⟨_,rfl⟩
 | out=>exact h.elim
theorem PGo.comp (h1:Only w.heap.size (B::gOf NA) w w1) (hs:∀ x,x∈gOf NA1->x∈gOf NA∨w.heap.size<=x) (h:PGo B base TA tc Ts AA ac as_ X NA1 r w1 e w'):PGo B base TA tc Ts AA ac as_ X NA r w e w':=by
 have hsub:∀ x,x∈B::gOf NA1->x∈B::gOf NA∨w.heap.size<=x:=λx hx=>by
  rcases List.mem_cons.1 hx with rfl|hx
  ·exact .inl qs
  ·exact (hs x hx).imp (λq=>List.mem_cons_of_mem _ q) id
 cases r with
 | ok v a ns =>
  obtain ⟨NA',nc',rfl,h2,h3,h4⟩:=h
  refine ⟨NA',nc',rfl,h2,h1.sub h3 h1.size hsub,λx hx=>?_⟩
  rcases h4 x hx with q|q
  ·exact hs x q
  ·exact .inr (Nat.le_trans h1.size q)
 | bad o =>
  obtain ⟨r,c0,c1,c2,c3,rfl,h2,h3,h4⟩:=h
  exact ⟨r,c0,c1,c2,c3,rfl,h2,h3,h1.sub h4 h1.size hsub⟩
 | out=>exact h.elim
theorem PGo.after {w0 w2:World} {NA0 NA2:Option Addr} (h0:Only w0.heap.size (B::gOf NA0) w0 w) (hs:∀ x,x∈gOf NA->x∈gOf NA0∨w0.heap.size<=x) (h1:Only w.heap.size (B::gOf NA) w w2) (hs1:∀ x,x∈gOf NA2->x∈gOf NA∨w.heap.size<=x) (o:Obj) :
  Only w0.heap.size (B::gOf NA0) w0 (w2.alloc o)/\(∀ x,x∈gOf NA2->x∈gOf NA0∨w0.heap.size<=x):=by
 have h2:Only w0.heap.size (B::gOf NA0) w0 w2:=h0.sub h1 h0.size (λx hx=>by
  rcases List.mem_cons.1 hx with rfl|hx
  ·exact .inl qs
  ·exact (hs x hx).imp (λq=>List.mem_cons_of_mem _ q) id)
 refine ⟨h2.al h2.size o,λx hx=>?_⟩
 rcases hs1 x hx with q|q
 ·exact hs x q
 ·exact .inr (Nat.le_trans h0.size q)
end
structure SPc (B base:Nat) (TA:Option Addr) (tc:Nat) (Ts:List Zaq) (AA:Option Addr) (ac:Nat) (as_:List Zaa) (n:Nat):Prop where
 bin:∀ (add:Bool) (d a:Nat) (X:List Nat) (NA:Option Addr) (nc:Nat) (ns:List Zac) (w:World),Za4 w B base TA tc Ts AA ac as_ X a NA nc ns (-1)->a<Ts.length->d<=65->mu (.bin add)+4*(Ts.length-a)<=n ->
  Calls Tryz.prog 122 #[.pointer (some ⟨B,0,none⟩),.int .i64 d,.bool add] w (PGo B base TA tc Ts AA ac as_ X NA (prs Ts n (.bin add) d a ns) w)
 fac:∀ (d a:Nat) (X:List Nat) (NA:Option Addr) (nc:Nat) (ns:List Zac) (w:World),Za4 w B base TA tc Ts AA ac as_ X a NA nc ns (-1)->a<Ts.length->d<=65->1+4*(Ts.length-a)<=n ->
  Calls Tryz.prog 227 #[.pointer (some ⟨B,0,none⟩),.int .i64 d] w (PGo B base TA tc Ts AA ac as_ X NA (prs Ts n .fac d a ns) w)
 cal:∀ (name:List UInt8) (d a:Nat) (X:List Nat) (NA:Option Addr) (nc:Nat) (ns:List Zac) (w:World),Za4 w B base TA tc Ts AA ac as_ X a NA nc ns (-1)->a<Ts.length->d<=65->4+4*(Ts.length-a)<=n ->
  Calls Tryz.prog 264 #[.pointer (some ⟨B,0,none⟩),str name,.int .i64 d] w (PGo B base TA tc Ts AA ac as_ X NA (prs Ts n (.args name []) d a ns) w)
theorem S_l13Operand {B base:Nat} {TA:Option Addr} {tc:Nat} {Ts:List Zaq} {AA:Option Addr} {ac:Nat} {as_:List Zaa} {n:Nat} (ih:SPc B base TA tc Ts AA ac as_ n) (add:Bool) {d a:Nat} {X:List Nat} {NA:Option Addr} {nc:Nat} {ns:List Zac} (w:World)
  (h:Za4 w B base TA tc Ts AA ac as_ X a NA nc ns (-1)) (ha:a<Ts.length) (hd:d<=65) (hn:mu (opd add)+4*(Ts.length-a)<=n) :
  Calls Tryz.prog 174 #[.pointer (some ⟨B,0,none⟩),.int .i64 d,.bool add] w (PGo B base TA tc Ts AA ac as_ X NA (prs Ts n (opd add) d a ns) w):=by
 cases add with
 | true =>
  have HC:=hdQ (ih.bin false d a X NA nc ns w h ha hd hn)
  clear h ih hn
  show Calls Tryz.prog 174 _ w (PGo B base TA tc Ts AA ac as_ X NA (prs Ts n (.bin false) d a ns) w)
  generalize prs Ts n (.bin false) d a ns=r at *
  go_enter Tryz.func174,Tryz.ntmps174
  go_wp2_with (first|(go_at_call 122;refine HC.out.mono ?_;rintro e w1 hg;obtain ⟨v,rfl⟩:=hg.ret;have HG:=hdQ hg;clear hg)|fail)
  go_ret
  exact HG.out
 | false =>
  have HC:=hdQ (ih.fac d a X NA nc ns w h ha hd hn)
  clear h ih hn
  show Calls Tryz.prog 174 _ w (PGo B base TA tc Ts AA ac as_ X NA (prs Ts n .fac d a ns) w)
  generalize prs Ts n .fac d a ns=r at *
  go_enter Tryz.func174,Tryz.ntmps174
  go_wp2_with (first|(go_at_call 227;refine HC.out.mono ?_;rintro e w1 hg;obtain ⟨v,rfl⟩:=hg.ret;have HG:=hdQ hg;clear hg)|fail)
  go_ret
  exact HG.out
theorem Zev {B base:Nat} {TA:Option Addr} {tc:Nat} {Ts:List Zaq} {AA:Option Addr} {ac:Nat} {as_:List Zaa} {n:Nat} (ih:SPc B base TA tc Ts AA ac as_ n) {d a:Nat} {X:List Nat} {NA:Option Addr} {nc:Nat} {ns:List Zac} (w:World)
  (h:Za4 w B base TA tc Ts AA ac as_ X a NA nc ns (-1)) (ha:a<Ts.length) (hd:d<=65) (hn:3+4*(Ts.length-a)<=n) :
  Calls Tryz.prog 62 #[.pointer (some ⟨B,0,none⟩),.int .i64 d] w (PGo B base TA tc Ts AA ac as_ X NA (prs Ts n (.bin true) d a ns) w):=by
 have HC:=hdQ (ih.bin true d a X NA nc ns w h ha hd hn)
 clear h ih hn
 generalize prs Ts n (.bin true) d a ns=r at *
 go_enter Tryz.func62,Tryz.ntmps62
 go_wp2_with (first|(go_at_call 122;refine HC.out.mono ?_;rintro e w1 hg;obtain ⟨v,rfl⟩:=hg.ret;have HG:=hdQ hg;clear hg)|fail)
 go_ret
 exact HG.out
def BinInv (B base:Nat) (TA:Option Addr) (tc:Nat) (Ts:List Zaq) (AA:Option Addr) (ac:Nat) (as_:List Zaa) (X:List Nat) (NA:Option Addr) (n d:Nat) (add:Bool) (R:PR) (w:World) (k:Nat) (v:Int) (wr:World):Prop :=
 (∃ (a1:Nat) (NA1:Option Addr) (nc1:Nat) (n1:List Zac) (f:Nat),Za4 wr B base TA tc Ts AA ac as_ X a1 NA1 nc1 n1 (-1)/\a1<Ts.length/\4+4*(Ts.length-a1)<=f/\f<=n/\f<=k/\prs Ts f (.loop add v) d a1 n1=R/\Only w.heap.size (B::gOf NA) w wr/\(∀ x,x∈gOf NA1->x∈gOf NA∨w.heap.size<=x)) ∨
 (∃ (o:Int) (c0 c1 c2 c3:Value),R=.bad o/\0<=o/\Own wr B 99 [c0,c1,c2,c3,.int .i64 o]/\Only w.heap.size (B::gOf NA) w wr)
theorem prs_loop0 {T:List Zaq} {n:Nat} {add:Bool} {v:Int} {d a:Nat} {ns:List Zac} (h:opS add (pk T a)=0):prs T (n+1) (.loop add v) d a ns=.ok v a ns:=by rw [prs,if_pos h]
theorem prs_loop1 {T:List Zaq} {n:Nat} {add:Bool} {v b:Int} {d a a1:Nat} {ns n1:List Zac} (h:opS add (pk T a)≠0) (hr:prs T n (opd add) d (a+1) ns=.ok b a1 n1) :
  prs T (n+1) (.loop add v) d a ns=match emit T (opS add (pk T a),[],0,[v,b]) a1 n1 with | .ok u a2 n2=>prs T n (.loop add u) d a2 n2 | .bad o=>.bad o | .out=>.out:=by rw [prs,if_neg h,hr];rfl
theorem prs_loop2 {T:List Zaq} {n:Nat} {add:Bool} {v o:Int} {d a:Nat} {ns:List Zac} (h:opS add (pk T a)≠0) (hr:prs T n (opd add) d (a+1) ns=.bad o):prs T (n+1) (.loop add v) d a ns=.bad o:=by rw [prs,if_neg h,hr]
theorem prs_bin1 {T:List Zaq} {n:Nat} {add:Bool} {v:Int} {d a a1:Nat} {ns n1:List Zac} (hr:prs T n (opd add) d a ns=.ok v a1 n1):prs T (n+1) (.bin add) d a ns=prs T n (.loop add v) d a1 n1:=by rw [prs,hr]
theorem prs_bin2 {T:List Zaq} {n:Nat} {add:Bool} {o:Int} {d a:Nat} {ns:List Zac} (hr:prs T n (opd add) d a ns=.bad o):prs T (n+1) (.bin add) d a ns=.bad o:=by rw [prs,hr]
theorem mu_opd (add:Bool):mu (opd add)+1=mu (.bin add)/\mu (opd add)<=2/\1<=mu (opd add):=by cases add<;>exact ⟨rfl,qd,qd⟩
theorem st_opd (add:Bool):st (opd add)=1:=by cases add<;>rfl
theorem S_l13Binary {B base:Nat} {TA:Option Addr} {tc:Nat} {Ts:List Zaq} {AA:Option Addr} {ac:Nat} {as_:List Zaa} {n:Nat} (hk:TokK Ts) (ih:∀ m,m<n->SPc B base TA tc Ts AA ac as_ m) (add:Bool) {d a:Nat} {X:List Nat} {NA:Option Addr} {nc:Nat} {ns:List Zac} (w:World)
  (h:Za4 w B base TA tc Ts AA ac as_ X a NA nc ns (-1)) (ha:a<Ts.length) (hd:d<=65) (hn:mu (.bin add)+4*(Ts.length-a)<=n) :
  Calls Tryz.prog 122 #[.pointer (some ⟨B,0,none⟩),.int .i64 d,.bool add] w (PGo B base TA tc Ts AA ac as_ X NA (prs Ts n (.bin add) d a ns) w):=by
 obtain ⟨h1,h2,h3⟩:=mu_opd add
 obtain ⟨k,rfl⟩:∃ k,n=k+1:=⟨n-1,qo⟩
 have HOP:=qh (∀ f,f<=k->∀ (a:Nat) (NA:Option Addr) (nc:Nat) (ns:List Zac) (wx:World),Za4 wx B base TA tc Ts AA ac as_ X a NA nc ns (-1)->a<Ts.length->mu (opd add)+4*(Ts.length-a)<=f ->
   Calls Tryz.prog 174 #[.pointer (some ⟨B,0,none⟩),.int .i64 d,.bool add] wx (PGo B base TA tc Ts AA ac as_ X NA (prs Ts f (opd add) d a ns) wx)) (λf hf a NA nc ns wx hx hax hnx=>S_l13Operand (ih f qo) add wx hx hax hd hnx)
 have hE:=Zbq hk.ok k (opd add) d a ns ha qo
 have HIN:=qh (∀ x,x∈gOf NA->x∈gOf NA∨w.heap.size<=x) (λx hx=>.inl hx)
 have HC:=HOP.out k (Nat.le_refl _) a NA nc ns w h ha qo
 obtain ⟨R,hR⟩:=qv (prs Ts (k+1) (.bin add) d a ns)
 have HST:=qh (∀ e w1,PGo B base TA tc Ts AA ac as_ X NA (prs Ts k (opd add) d a ns) w e w1->∃ v:Int,e=.returned (.int .i64 v)/\BinInv B base TA tc Ts AA ac as_ X NA k d add R w k v w1) (λe w1 hg=>by
  cases hr:prs Ts k (opd add) d a ns with
  | out=>exact absurd hr hE.1
  | bad o =>
   rw [hr] at hg
   obtain ⟨r,c0,c1,c2,c3,rfl,q1,q2,q3⟩:=hg
   exact ⟨r,rfl,.inr ⟨o,c0,c1,c2,c3,by rw [<- hR,prs_bin2 hr],q2,q1,q3⟩⟩
  | ok v a1 n1 =>
   rw [hr] at hg
   obtain ⟨NA',nc',rfl,q1,q2,q3⟩:=hg
   have h5:=hE.2 v a1 n1 hr
   rw [st_opd] at h5
   exact ⟨v,rfl,.inl ⟨a1,NA',nc',n1,k,q1,h5.2,qo,Nat.le_refl _,Nat.le_refl _,by rw [<- hR,prs_bin1 hr],q2,q3⟩⟩)
 rw [hR]
 generalize prs Ts k (opd add) d a ns=r0 at *
 clear hE h hn hR
 go_enter Tryz.func122,Tryz.ntmps122
 go_wp2_with (first|(go_at_call 174;refine HC.mono ?_;rintro e w1 hg;obtain ⟨v,rfl,hv⟩:=HST.out _ _ hg;have HV:=hdQ hv;clear hg hv HC)|fail)
 go_loopg [7,8,9] k (λg p _ _ wr=>∃ v:Int,p=.int .i64 v/\BinInv B base TA tc Ts AA ac as_ X NA k d add R w g v wr)
 case atStart=>exact ⟨v,rfl,HV.out⟩
 case round =>
  obtain ⟨v',rfl,hinv⟩:=hrel
  obtain ⟨wo,rfl⟩:=qe wr
  clear HV
  rcases hinv with ⟨a1,NA1,nc1,n1,f,hst,ha1,hf1,hf2,hf3,hR,hO,hS⟩|⟨o,c0,c1,c2,c3,rfl,ho,hw,hO⟩
  ·obtain ⟨f',rfl⟩:∃ f',f=f'+1:=⟨f-1,qo⟩
   have HPK:=hdQ (Zdi wo hst ha1)
   obtain ⟨hB,_,c1,_,_,c4,cf⟩:=hst.cells
   have HS:=hdQ hst
   have HO:=hdQ hO
   have HSb:=hdQ hS
   have hOz:=hO.size
   obtain ⟨q,hq⟩:=qv (opS add (pk Ts a1))
   have HOPc:=qh (∀ wx,Calls Tryz.prog 175 #[str (pk Ts a1),.bool add] wx λe w'=>e=.returned (.int .i64 q)/\wx=w') (λwx=>by have:=S_l13Op (pk Ts a1) add wx;rw [hq] at this;exact this)
   have hin:=λ(h0:q≠0)=>Zc9 hk.ok ha1 (opS_ne (add:=add) (x:=pk Ts a1) (by rw [hq];exact h0))
   clear hst hO hS
   by_cases hq0:q=0
   ·rw [prs_loop0 (by rw [hq,hq0])] at hR
    subst hR
    subst hq0
    clear hq hin
    generalize pk Ts a1=y at *
    go_wp2_with (first|(go_at_call 121;refine HPK.out.mono ?_;rintro e w1 ⟨rfl,hb1⟩;have HS1:=hdQ (HS.out.step hb1);have HO1:=qh (Only w.heap.size (B::gOf NA) w w1) (HO.out.sub (Only.of_below hb1 []) hOz (λx hx=>by cases hx));clear hb1)|(go_at_call 175;refine (HOPc.out _).mono ?_;rintro e w' ⟨rfl,rfl⟩)|fail)
    go_ret
    exact ⟨NA1,nc1,rfl,HS1.out,HO1.out,HSb.out⟩
   ·have hin1:=hin hq0
    have hq0':(q==0)=false:=by simpa using hq0
    have hE:=Zbq hk.ok f' (opd add) d (a1+1) n1 hin1 qo
    have HOPR:=qh (∀ wx,Za4 wx B base TA tc Ts AA ac as_ X (a1+1) NA1 nc1 n1 (-1)->Calls Tryz.prog 174 #[.pointer (some ⟨B,0,none⟩),.int .i64 d,.bool add] wx (PGo B base TA tc Ts AA ac as_ X NA1 (prs Ts f' (opd add) d (a1+1) n1) wx)) (λwx hx=>HOP.out f' qo (a1+1) NA1 nc1 n1 wx hx hin1 qo)
    have ha1s:=hk.len
    cases hr:prs Ts f' (opd add) d (a1+1) n1 with
    | out=>exact absurd hr hE.1
    | bad o =>
     rw [prs_loop2 (by rw [hq];exact hq0) hr] at hR
     subst hR
     rw [hr] at HOPR
     clear hr hE hq hin hq0
     generalize pk Ts a1=y at *
     go_wp2_with (first|(go_at_call 121;refine HPK.out.mono ?_;rintro e w1 ⟨rfl,hb1⟩;have HS1:=hdQ (HS.out.step hb1);have HO1:=qh (Only w.heap.size (B::gOf NA) w w1) (HO.out.sub (Only.of_below hb1 []) hOz (λx hx=>by cases hx));have d1:=HS1.out.cells.2.2.1;have df:=HS1.out.cells.2.2.2.2.2.2;have dB:=HS1.out.cells.1;have HSA:=qh (Za4 (w1.setCell ⟨B,1,none⟩ (.int .i64 ((a1:Int)+1))) B base TA tc Ts AA ac as_ X (a1+1) NA1 nc1 n1 (-1)) (by have:=HS1.out.setAt (a1+1);simpa using this);clear hb1)|(go_at_call 175;refine (HOPc.out _).mono ?_;rintro e w' ⟨rfl,rfl⟩)|(go_at_call 174;refine (HOPR.out _ HSA.out).mono ?_;rintro e w2 ⟨r,b0,b1,b2,b3,rfl,hw2,ho2,hO2⟩;have HW2:=hdQ hw2;have HO2:=hdQ hO2;have g4:=hw2.cell 4;(try dsimp only [List.getElem?_cons_succ,List.getElem?_cons_zero] at g4);clear hw2 hO2)|fail)
     go_ret
     refine ⟨0,b0,b1,b2,b3,rfl,HW2.out,ho2, ?_⟩
     refine (HO1.out.setCell (p:=⟨B,1,none⟩) qs _).sub HO2.out (by have:=HO1.out.size;simpa using this) (λx hx=>?_)
     rcases List.mem_cons.1 hx with rfl|hx
     ·exact .inl qs
     ·exact (HSb.out x hx).imp (λq=>List.mem_cons_of_mem _ q) id
    | ok b a2 n2 =>
     have hR2:=prs_loop1 (v:=v') (by rw [hq];exact hq0) hr
     rw [hR] at hR2
     rw [hr] at HOPR
     have h6:=hE.2 b a2 n2 hr
     rw [st_opd] at h6
     have HEM:=qh (∀ (wx:World) (NA2:Option Addr) (nc2:Nat),Za4 wx B base TA tc Ts AA ac as_ X a2 NA2 nc2 n2 (-1)->Calls Tryz.prog 176 #[.pointer (some ⟨B,0,none⟩),nodeV q [] 0 (.slice (some ⟨wx.heap.size,0,none⟩) 2 2)] (wx.alloc (.cells #[.int .i64 v',.int .i64 b] 3)) (PGo B base TA tc Ts AA ac as_ X NA2 (emit Ts (q,[],0,[v',b]) a2 n2) (wx.alloc (.cells #[.int .i64 v',.int .i64 b] 3)))) (λwx NA2 nc2 hx =>
      S_l13Emit (args:=[v',b]) _ (hx.fresh_ _) qo h6.2 hk.len hk.off (Zbu.some_ (Own.new wx 3 #[.int .i64 v',.int .i64 b]) rfl qs) (λy hy=>by
       obtain rfl:y=wx.heap.size:=by simpa [gOf] using hy
       exact λq=>by have:=(hx.2.xlt _ q).1;omega))
     have HNX:=qh (∀ (wx:World) (NA2:Option Addr) (e:Ending) (w3:World),Only w.heap.size (B::gOf NA) w wx->(∀ x,x∈gOf NA2->x∈gOf NA∨w.heap.size<=x)->PGo B base TA tc Ts AA ac as_ X NA2 (emit Ts (q,[],0,[v',b]) a2 n2) wx e w3->∃ v:Int,e=.returned (.int .i64 v)/\BinInv B base TA tc Ts AA ac as_ X NA k d add R w (gk-1) v w3) (λwx NA2 e w3 hO2 hS2 hg=>by
      have hg':=hg.comp hO2 hS2
      cases he:emit Ts (q,[],0,[v',b]) a2 n2 with
      | out=>rw [he] at hg;exact hg.elim
      | bad o =>
       rw [he] at hg'
       obtain ⟨r,c0,c1,c2,c3,rfl,q1,q2,q3⟩:=hg'
       rw [hq,he] at hR2
       exact ⟨r,rfl,.inr ⟨o,c0,c1,c2,c3,hR2,q2,q1,q3⟩⟩
      | ok u a3 n3 =>
       obtain ⟨rfl,_⟩:=emit_at he
       rw [he] at hg'
       obtain ⟨NA',nc',rfl,q1,q2,q3⟩:=hg'
       rw [hq,he] at hR2
       exact ⟨u,rfl,.inl ⟨a3,NA',nc',n3,f',q1,h6.2,qo,qo,qo,hR2.symm,q2,q3⟩⟩)
     clear hr hE hq hin hq0 hR hR2
     generalize emit Ts (q,[],0,[v',b]) a2 n2=r2 at *
     generalize pk Ts a1=y at *
     go_wp2_with (first|(go_at_call 121;refine HPK.out.mono ?_;rintro e w1 ⟨rfl,hb1⟩;have HS1:=hdQ (HS.out.step hb1);have HO1:=qh (Only w.heap.size (B::gOf NA) w w1) (HO.out.sub (Only.of_below hb1 []) hOz (λx hx=>by cases hx));have d1:=HS1.out.cells.2.2.1;have df:=HS1.out.cells.2.2.2.2.2.2;have dB:=HS1.out.cells.1;have HSA:=qh (Za4 (w1.setCell ⟨B,1,none⟩ (.int .i64 ((a1:Int)+1))) B base TA tc Ts AA ac as_ X (a1+1) NA1 nc1 n1 (-1)) (by have:=HS1.out.setAt (a1+1);simpa using this);clear hb1)|(go_at_call 175;refine (HOPc.out _).mono ?_;rintro e w' ⟨rfl,rfl⟩)|(go_at_call 174;refine (HOPR.out _ HSA.out).mono ?_;rintro e w2 ⟨NA2,nc2,rfl,hs2,hO2,hS2⟩;have g4:=hs2.cells.2.2.2.2.2.1;have HS2:=hdQ hs2;have HOS:=qh (Only w.heap.size (B::gOf NA) w (w2.alloc (.cells #[.int .i64 v',.int .i64 b] 3))/\(∀ x,x∈gOf NA2->x∈gOf NA∨w.heap.size<=x)) (PGo.after (HO1.out.setCell (p:=⟨B,1,none⟩) qs _) HSb.out hO2 hS2 _);clear hs2 hO2 hS2)|(go_at_call 176;refine (HEM.out _ _ _ HS2.out).mono ?_;rintro e w3 hg;obtain ⟨v3,rfl,hv3⟩:=HNX.out _ _ _ _ HOS.out.1 HOS.out.2 hg;have HV3:=hdQ hv3;clear hg hv3)|fail)
     go_roundg (gk-1)
     case measure=>omega
     case rel=>exact ⟨v3,rfl,HV3.out⟩
  ·have g4:wo.cell? ⟨B,4,none⟩=some (.int .i64 o):=hw.cell 4
   have HW:=hdQ hw
   have HO:=hdQ hO
   have ho':¬ o<0:=qo
   clear hw hO
   go_wp2_with fail
   go_ret
   exact ⟨v',c0,c1,c2,c3,rfl,HW.out,ho,HO.out⟩
section
variable {w w':World} {B base:Nat} {TA:Option Addr} {tc:Nat} {Ts:List Zaq} {AA:Option Addr} {ac:Nat} {as_:List Zaa} {X:List Nat} {NA NA1:Option Addr} {nc:Nat} {ns:List Zac} {a:Nat} {bad:Int}
theorem Za4.app {e:TypeId} {size n n' c' base':Nat} {xs:List Value} {PA PA':Option Addr} (h:Za4 w B base TA tc Ts AA ac as_ (gOf PA++X) a NA nc ns bad) (ap:Za5 w base' e size PA n xs PA' n' c' w'):Za4 w' B base TA tc Ts AA ac as_ (gOf PA'++X) a NA nc ns bad :=
 ⟨(ap.2.2.1.block B h.1.lt (by have:=h.2.xlt B;cases PA<;>simp_all [gOf])).trans h.1,h.2.app ap⟩
theorem Za4.apart {Z:List Nat} (h:Za4 w B base TA tc Ts AA ac as_ (Z++X) a NA nc ns bad) {y:Nat} (hy:y∈Z) (hX:y∉X):y∉B::(gOf NA++gOf AA++X):=by
 simp only [List.mem_cons,List.mem_append,not_or]
 exact ⟨(h.2.xlt y (by simp [hy])).2,⟨λq=>(h.2.apN y q).2.2 (by simp [hy]),λq=>(h.2.apA y q).2 (by simp [hy])⟩,hX⟩
theorem Only.app {w0:World} {G:List Nat} {e:TypeId} {size n n' c' base':Nat} {xs:List Value} {PA PA':Option Addr} (h:Only w0.heap.size G w0 w) (ap:Za5 w base' e size PA n xs PA' n' c' w') (hP:∀ x,x∈gOf PA->w0.heap.size<=x):Only w0.heap.size G w0 w' :=
 ⟨ap.2.1.os.trans h.os,ap.2.1.tape.trans h.tape,ap.2.1.output.trans h.output,Nat.le_trans h.size ap.2.2.2.1,λy hy hG=>(ap.2.2.1.block y (Nat.lt_of_lt_of_le hy h.size) (by cases PA with|none=>simp|some ad=>(have:=hP ad.block (by simp [gOf]);simp;omega))).trans (h.block y hy hG)⟩
end
def CallInv (B base:Nat) (TA:Option Addr) (tc:Nat) (Ts:List Zaq) (AA:Option Addr) (ac:Nat) (as_:List Zaa) (X:List Nat) (NA:Option Addr) (n d:Nat) (name:List UInt8) (R:PR) (w:World) (k:Nat) (l:List Int) (PA:Option Addr) (pc:Nat) (wr:World):Prop :=
 ∃ (a1:Nat) (NA1:Option Addr) (nc1:Nat) (n1:List Zac) (f:Nat),Za4 wr B base TA tc Ts AA ac as_ (gOf PA++X) a1 NA1 nc1 n1 (-1)/\a1<Ts.length/\4+4*(Ts.length-a1)<=f/\f<=n/\f<=k/\prs Ts f (.args name l) d a1 n1=R/\¬ (l=[]/\pk Ts a1=[41])/\l.length<=3 /\
  Zah wr w.heap.size 3 1 PA l.length pc (ints l)/\Only w.heap.size (B::gOf NA) w wr/\(∀ x,x∈gOf NA1->x∈gOf NA∨w.heap.size<=x)
theorem prs_args0 {T:List Zaq} {n:Nat} {name:List UInt8} {d a:Nat} {ns:List Zac} (h:pk T a=[41]):prs T (n+1) (.args name []) d a ns=emit T (8,name,0,[]) (a+1) ns:=by rw [prs,if_pos ⟨rfl,h⟩]
theorem prs_args3 {T:List Zaq} {n:Nat} {name:List UInt8} {l:List Int} {d a:Nat} {ns:List Zac} (h:¬ (l=[]/\pk T a=[41])) (hl:l.length=3):prs T (n+1) (.args name l) d a ns=.bad (of_ T a):=by rw [prs,if_neg h,if_pos hl]
theorem prs_argsB {T:List Zaq} {n:Nat} {name:List UInt8} {l:List Int} {d a:Nat} {ns:List Zac} {o:Int} (h:¬ (l=[]/\pk T a=[41])) (hl:l.length≠3) (hr:prs T n (.bin true) d a ns=.bad o):prs T (n+1) (.args name l) d a ns=.bad o:=by rw [prs,if_neg h,if_neg hl,hr]
theorem prs_argsN {T:List Zaq} {n:Nat} {name:List UInt8} {l:List Int} {d a a1:Nat} {ns n1:List Zac} {v:Int} (h:¬ (l=[]/\pk T a=[41])) (hl:l.length≠3) (hr:prs T n (.bin true) d a ns=.ok v a1 n1) (hp:pk T a1=[44]):prs T (n+1) (.args name l) d a ns=prs T n (.args name (l++[v])) d (a1+1) n1:=by rw [prs,if_neg h,if_neg hl,hr];simp only [hp,if_true]
theorem prs_argsE {T:List Zaq} {n:Nat} {name:List UInt8} {l:List Int} {d a a1:Nat} {ns n1:List Zac} {v:Int} (h:¬ (l=[]/\pk T a=[41])) (hl:l.length≠3) (hr:prs T n (.bin true) d a ns=.ok v a1 n1) (hp:pk T a1≠[44]) (hq:pk T a1=[41]):prs T (n+1) (.args name l) d a ns=emit T (8,name,0,l++[v]) (a1+1) n1:=by rw [prs,if_neg h,if_neg hl,hr];simp only [if_neg hp,if_pos hq]
theorem prs_argsX {T:List Zaq} {n:Nat} {name:List UInt8} {l:List Int} {d a a1:Nat} {ns n1:List Zac} {v:Int} (h:¬ (l=[]/\pk T a=[41])) (hl:l.length≠3) (hr:prs T n (.bin true) d a ns=.ok v a1 n1) (hp:pk T a1≠[44]) (hq:pk T a1≠[41]):prs T (n+1) (.args name l) d a ns=.bad (of_ T a1):=by rw [prs,if_neg h,if_neg hl,hr];simp only [if_neg hp,if_neg hq]
theorem S_l13Call {B base:Nat} {TA:Option Addr} {tc:Nat} {Ts:List Zaq} {AA:Option Addr} {ac:Nat} {as_:List Zaa} {n:Nat} (hk:TokK Ts) (ih:∀ m,m<n->SPc B base TA tc Ts AA ac as_ m) (name:List UInt8) {d a:Nat} {X:List Nat} {NA:Option Addr} {nc:Nat} {ns:List Zac} (w:World)
  (h:Za4 w B base TA tc Ts AA ac as_ X a NA nc ns (-1)) (ha:a<Ts.length) (hd:d<=65) (hn:4+4*(Ts.length-a)<=n) :
  Calls Tryz.prog 264 #[.pointer (some ⟨B,0,none⟩),str name,.int .i64 d] w (PGo B base TA tc Ts AA ac as_ X NA (prs Ts n (.args name []) d a ns) w):=by
 have hlen:=hk.len
 have hX0:=λx hx=>(h.2.xlt x hx).1
 have HXP:=qh (∀ (wx:World) (a1:Nat) (NA1:Option Addr) (nc1:Nat) (n1:List Zac) (Y:List Nat),Za4 wx B base TA tc Ts AA ac as_ Y a1 NA1 nc1 n1 (-1)->a1<Ts.length->Calls Tryz.prog 61 #[.pointer (some ⟨B,0,none⟩),.string ⟨#[41]⟩] wx (PExp B base TA tc Ts AA ac as_ Y a1 NA1 nc1 n1 (decide (pk Ts a1=[41])) wx)) (λwx a1 NA1 nc1 n1 Y hx h1=>Zgd [41] wx hx h1 hlen)
 have HEM:=qh (∀ (wx:World) (a1:Nat) (NA1:Option Addr) (nc1:Nat) (n1:List Zac) (l:List Int) (PA:Option Addr) (pc:Nat),Za4 wx B base TA tc Ts AA ac as_ (gOf PA++X) (a1+1) NA1 nc1 n1 (-1)->a1+1<Ts.length->Zbu wx 1 PA l.length pc 3 (ints l)->(∀ y,y∈gOf PA->w.heap.size<=y) ->
   Calls Tryz.prog 176 #[.pointer (some ⟨B,0,none⟩),nodeV 8 name 0 (.slice PA l.length pc)] wx (PGo B base TA tc Ts AA ac as_ X NA1 (emit Ts (8,name,0,l) (a1+1) n1) wx)) (λwx a1 NA1 nc1 n1 l PA pc hx h1 hr hg=>S_l13Emit wx hx qo h1 hlen hk.off hr (λy hy q=>by have:=hX0 y q;have:=hg y hy;omega))
 obtain ⟨k,rfl⟩:∃ k,n=k+1:=⟨n-1,qo⟩
 have HPK:=qh (∀ (wx:World) (a1:Nat) (NA1:Option Addr) (nc1:Nat) (n1:List Zac) (Y:List Nat),Za4 wx B base TA tc Ts AA ac as_ Y a1 NA1 nc1 n1 (-1)->a1<Ts.length->CB_ Tryz.prog 121 #[.pointer (some ⟨B,0,none⟩)] wx (str (pk Ts a1))) (λwx a1 NA1 nc1 n1 Y hx h1=>Zdi wx hx h1)
 have HS:=hdQ h
 have hB:=h.1.lt
 have HSA:=qh (Za4 (w.alloc (.cells #[] 3)) B base TA tc Ts AA ac as_ (gOf (some ⟨w.heap.size,0,none⟩)++X) a NA nc ns (-1)) (h.ownX ((Below.refl _ _).alloc (Nat.le_refl _) _) (λy hy=>by
  simp only [gOf,List.mem_append,List.mem_cons,List.not_mem_nil,or_false] at hy
  rcases hy with rfl|hy
  ·exact ⟨qs,.inr (Nat.le_refl _)⟩
  ·exact ⟨by have:=hX0 y hy;simp;omega,.inl hy⟩))
 have HG0:=qh (Zah (w.alloc (.cells #[] 3)) w.heap.size 3 1 (some ⟨w.heap.size,0,none⟩) 0 0 (ints [])) (Zah.lit w #[] 0 rfl (Nat.le_refl _) (Nat.zero_le _))
 clear h
 by_cases hp:pk Ts a=[41]
 ·have hin:=Zc9 hk.ok ha (by rw [hp];simp)
  have HE:=hdQ (prs_args0 (n:=k) (name:=name) (d:=d) (ns:=ns) hp)
  have HPKa:=hdQ (HPK.out _ a NA nc ns _ HSA.out ha)
  have HXPa:=qh (∀ (wx:World),Za4 wx B base TA tc Ts AA ac as_ (gOf (some ⟨w.heap.size,0,none⟩)++X) a NA nc ns (-1)->Calls Tryz.prog 61 #[.pointer (some ⟨B,0,none⟩),.string ⟨#[41]⟩] wx (PExp B base TA tc Ts AA ac as_ (gOf (some ⟨w.heap.size,0,none⟩)++X) a NA nc ns true wx)) (λwx hx=>by have:=HXP.out wx a NA nc ns _ hx ha;rw [hp] at this;exact this)
  have HEMa:=qh (∀ (wx:World),Za4 wx B base TA tc Ts AA ac as_ (gOf (some ⟨w.heap.size,0,none⟩)++X) (a+1) NA nc ns (-1)->Zah wx w.heap.size 3 1 (some ⟨w.heap.size,0,none⟩) 0 0 (ints [])->Calls Tryz.prog 176 #[.pointer (some ⟨B,0,none⟩),nodeV 8 name 0 (.slice (some ⟨w.heap.size,0,none⟩) 0 0)] wx (PGo B base TA tc Ts AA ac as_ X NA (emit Ts (8,name,0,[]) (a+1) ns) wx)) (λwx hx hg=>HEM.out wx a NA nc ns [] _ 0 hx hin hg.ownS hg.ge)
  rw [hp] at HPKa
  rw [HE.out]
  clear HPK HXP HEM hp
  generalize emit Ts (8,name,0,[]) (a+1) ns=r at *
  go_enter Tryz.func264,Tryz.ntmps264
  go_wp2_with (first|(go_at_call 121;refine HPKa.out.mono ?_;rintro e w1 ⟨rfl,hb1⟩;have HS1:=hdQ (HSA.out.step hb1);have HG1:=hdQ (HG0.out.step hb1);have HO1:=qh (Only w.heap.size (B::gOf NA) w w1) (Only.of_below (bst hb1) _);clear hb1)|(go_at_call 61;refine (HXPa.out _ HS1.out).mono ?_;rintro e w2 ⟨rfl,hO2,hs2,_⟩;have HS2:=hdQ (hs2 rfl);have HG2:=hdQ (HG1.out.only hO2 (λx hx=>⟨HG1.out.lt x hx,λr=>by simp at r;exact (HS1.out.2.xlt x (by simp [hx])).2 r⟩));have HO2:=qh (Only w.heap.size (B::gOf NA) w w2) (HO1.out.sub hO2 HO1.out.size (λx hx=>.inl (by simp at hx;simp [hx])));clear hO2 hs2)|(go_at_call 176;refine (HEMa.out _ HS2.out HG2.out).mono ?_;rintro e w3 hg;obtain ⟨v,rfl⟩:=hg.ret;have HG:=hdQ (hg.comp HO2.out (λx hx=>.inl hx));clear hg)|fail)
  go_ret
  exact HG.out
 ·have hne:(pk Ts a != [41])=true:=by simpa using hp
  have hne2:(pk Ts a==[41])=false:=by simpa using hp
  have HPKa:=hdQ (HPK.out _ a NA nc ns _ HSA.out ha)
  obtain ⟨R,hR⟩:=qv (prs Ts (k+1) (.args name []) d a ns)
  have HST:=qh (∀ w1,Below (w.alloc (.cells #[] 3)).heap.size (w.alloc (.cells #[] 3)) w1->CallInv B base TA tc Ts AA ac as_ X NA (k+1) d name R w (k+1) [] (some ⟨w.heap.size,0,none⟩) 0 w1) (λw1 hb1=>⟨a,NA,nc,ns,k+1,HSA.out.step hb1,ha,hn,Nat.le_refl _,Nat.le_refl _,hR,λq=>hp q.2,qs,Zah.step hb1 HG0.out,Only.of_below (bst hb1) _,λx hx=>.inl hx⟩)
  rw [hR]
  have HPNE:=hdQ hp
  generalize pk Ts a=y at *
  clear hR hn hp HG0
  go_enter Tryz.func264,Tryz.ntmps264
  go_wp2_with (first|(go_at_call 121;refine HPKa.out.mono ?_;rintro e w1 ⟨rfl,hb1⟩;have HIV:=hdQ (HST.out w1 hb1);clear hb1)|fail)
  go_loopg [7,8] (k+1) (λg p _ wr=>∃ (l:List Int) (PA:Option Addr) (pc:Nat),p=.slice PA l.length pc/\CallInv B base TA tc Ts AA ac as_ X NA (k+1) d name R w g l PA pc wr)
  case atStart=>exact ⟨[],_,0,rfl,HIV.out⟩
  case round =>
   obtain ⟨l,PA,pc,rfl,a1,NA1,nc1,n1,f,hst,ha1,hf1,hf2,hf3,hR,hnl,hl3,hg,hO,hS⟩:=hrel
   obtain ⟨wo,rfl⟩:=qe wr
   obtain ⟨f',rfl⟩:∃ f',f=f'+1:=⟨f-1,qo⟩
   have hPge:=hg.ge
   have hPlt:=hg.lt
   have hOz:=hO.size
   have HS0:=hdQ hst
   have HO:=hdQ hO
   have HSb:=hdQ hS
   have HG:=hdQ hg
   have HGE:=hdQ hPge
   have hB0:=hst.1.lt
   clear HIV HSA HPKa hne hne2
   by_cases h3:l.length=3
   ·rw [prs_args3 hnl h3] at hR
    subst hR
    have e3:((l.length:Int)==3)=true:=by rw [h3];rfl
    have HFL:=hdQ (Zci wo hst ha1)
    clear h3 hst hO hS hg hPge hPlt hnl
    go_wp2_with (first|(go_at_call 60;refine HFL.out.mono ?_;rintro e w2 ⟨rfl,rfl⟩)|fail)
    go_ret
    exact ⟨0,_,_,_,_,rfl,(HS0.out.setBad _).1.drew,hk.off _,(HO.out.setCell qs _).drew⟩
   ·have e3:((l.length:Int)==3)=false:=by rw [beq_eq_false_iff_ne];omega
    have hE:=Zbq hk.ok f' (.bin true) d a1 n1 ha1 (by show 3+_<=f';omega)
    have HEX:=hdQ (Zev (ih f' qo) wo hst ha1 hd qo)
    cases hr:prs Ts f' (.bin true) d a1 n1 with
    | out=>exact absurd hr hE.1
    | bad o =>
     rw [prs_argsB hnl h3 hr] at hR
     subst hR
     rw [hr] at HEX
     clear h3 hst hO hS hg hPge hPlt hnl hr hE
     go_wp2_with (first|(go_at_call 62;refine HEX.out.mono ?_;rintro e u2 ⟨r,b0,b1,b2,b3,rfl,hw2,ho2,hO2⟩;have HW2:=hdQ hw2;have HO2:=hdQ hO2;have g4:=hw2.cell 4;(try dsimp only [List.getElem?_cons_succ,List.getElem?_cons_zero] at g4);clear hw2 hO2)|fail)
     go_ret
     exact PGo.comp HO.out HSb.out ⟨0,b0,b1,b2,b3,rfl,HW2.out,ho2,HO2.out⟩
    | ok v a2 n2 =>
     rw [hr] at HEX
     have h6:=hE.2 v a2 n2 hr
     have h6':a1+1<=a2/\a2<Ts.length:=h6
     have HAPD:=qh (∀ (u2 u3:World) (NA2:Option Addr) (nc2:Nat) (ob:Obj) (A':Option Addr) (c':Nat),Za4 u2 B base TA tc Ts AA ac as_ (gOf PA++X) a2 NA2 nc2 n2 (-1)->Only wo.heap.size (B::gOf NA1) wo u2->(∀ x,x∈gOf NA2->x∈gOf NA1∨wo.heap.size<=x) ->
       Za5 (u2.alloc ob) w.heap.size 3 1 PA l.length (ints l++ints [v]) A' (l.length+1) c' u3->Za4 u3 B base TA tc Ts AA ac as_ (gOf A'++X) a2 NA2 nc2 n2 (-1)/\Zah u3 w.heap.size 3 1 A' (l++[v]).length c' (ints (l++[v]))/\Only w.heap.size (B::gOf NA) w u3/\(∀ x,x∈gOf NA2->x∈gOf NA∨w.heap.size<=x)) (λu2 u3 NA2 nc2 ob A' c' q1 q2 q3 gA=>by
      obtain ⟨r1,r2⟩:=PGo.after (B:=B) HO.out HSb.out q2 q3 ob
      refine ⟨(q1.alloc ob).app gA, ?_,r1.app gA HGE.out,r2⟩
      have:=gA.1
      rw [show ints l++ints [v]=ints (l++[v]) by simp [ints]] at this
      rw [show (l++[v]).length=l.length+1 by simp]
      exact this)
     have HGR:=qh (∀ u2,Only wo.heap.size (B::gOf NA1) wo u2->Zah u2 w.heap.size 3 1 PA l.length pc (ints l)) (λu2 q=>HG.out.only q (λx hx=>⟨hPlt x hx,λr=>by
      rcases List.mem_cons.1 r with r|r
      ·exact (HS0.out.2.xlt x (by simp [hx])).2 r
      ·exact (HS0.out.2.apN x r).2.2 (by simp [hx])⟩))
     have hl2:l.length<=2:=qo
     clear hst hO hS hg hPge hPlt hE
     by_cases hp44:pk Ts a2=[44]
     ·rw [prs_argsN hnl h3 hr hp44] at hR
      have hin:=Zc9 hk.ok h6'.2 (by rw [hp44];simp)
      have HNX:=qh (∀ (u4:World) (NA2:Option Addr) (nc2:Nat) (A':Option Addr) (c':Nat),Za4 u4 B base TA tc Ts AA ac as_ (gOf A'++X) a2 NA2 nc2 n2 (-1)->Zah u4 w.heap.size 3 1 A' (l++[v]).length c' (ints (l++[v]))->Only w.heap.size (B::gOf NA) w u4->(∀ x,x∈gOf NA2->x∈gOf NA∨w.heap.size<=x)->CallInv B base TA tc Ts AA ac as_ X NA (k+1) d name R w (gk-1) (l++[v]) A' c' (u4.setCell ⟨B,1,none⟩ (.int .i64 ((a2:Int)+1)))) (λu4 NA2 nc2 A' c' q1 q2 q3 q4=>by
       have q5:=q1.setAt (a2+1)
       refine ⟨a2+1,NA2,nc2,n2,f',by simpa using q5,hin,qo,qo,qo,hR,λq=>by simp at q,by simp;omega, ?_,q3.setCell qs _,q4⟩
       exact q2.keep (λx hx=>Below.heap_setCell _ _ _ _ (λe=>(q1.2.xlt x (by simp [hx])).2 e)))
      have HPK2:=qh (∀ (u3:World) (NA2:Option Addr) (nc2:Nat) (Y:List Nat),Za4 u3 B base TA tc Ts AA ac as_ Y a2 NA2 nc2 n2 (-1)->Calls Tryz.prog 121 #[.pointer (some ⟨B,0,none⟩)] u3 λe w'=>e=.returned (.string ⟨#[44]⟩)/\Below u3.heap.size u3 w') (λu3 NA2 nc2 Y q=>by have:=HPK.out u3 a2 NA2 nc2 n2 Y q h6'.2;rw [hp44] at this;exact this)
      have ha2s:a2<1048576:=qo
      clear h3 hr hR hp44 hnl HPK
      go_wp2_with (first|(go_at_call 62;refine HEX.out.mono ?_;rintro e u2 ⟨NA2,nc2,rfl,hs2,hO2,hS2⟩;have HS2:=hdQ hs2;have HO2:=hdQ hO2;have HSb2:=hdQ hS2;have g4:=hs2.cells.2.2.2.2.2.1;have hz2:=hO2.size;have HG2:=hdQ (HGR.out u2 hO2);clear hs2 hO2 hS2)|(at_builtin;refine wpA (w.heap.size) Tryz.underlying24 T.infoInt (ints l) (ints [v]) (Zde _) ?_ ?_ ?_;exact (gwx HG2.out);exact (ltt 1);rintro A' c' w2 gA;obtain ⟨z1,z2,z3,z4⟩:=HAPD.out _ _ _ _ _ _ _ HS2.out HO2.out HSb2.out gA;have HS3:=hdQ z1;have HG3:=hdQ z2;have HO3:=hdQ z3;have HSb3:=hdQ z4;have hz3:=z3.size;clear gA z1 z2 z3 z4)|(go_at_call 121;refine (HPK2.out _ _ _ _ HS3.out).mono ?_;rintro e u4 ⟨rfl,hb4⟩;have HS4:=hdQ (HS3.out.step hb4);have HG4:=hdQ (HG3.out.step hb4);have HO4:=qh (Only w.heap.size (B::gOf NA) w u4) (HO3.out.sub (Only.of_below hb4 []) hz3 (λx hx=>by cases hx));have d1:=HS4.out.cells.2.2.1;have df:=HS4.out.cells.2.2.2.2.2.2;have dB:=HS4.out.cells.1;clear hb4)|fail)
      go_roundg (gk-1)
      case measure=>omega
      case rel=>exact ⟨l++[v],_,_,by rw [List.length_append];rfl,HNX.out _ _ _ _ _ HS4.out HG4.out HO4.out HSb3.out⟩
     ·have HPK2:=qh (∀ (u3:World) (NA2:Option Addr) (nc2:Nat) (Y:List Nat),Za4 u3 B base TA tc Ts AA ac as_ Y a2 NA2 nc2 n2 (-1)->Calls Tryz.prog 121 #[.pointer (some ⟨B,0,none⟩)] u3 λe w'=>e=.returned (str (pk Ts a2))/\Below u3.heap.size u3 w') (λu3 NA2 nc2 Y q=>HPK.out u3 a2 NA2 nc2 n2 Y q h6'.2)
      have hm:(pk Ts a2 != [44])=true:=by simpa using hp44
      have hm2:(pk Ts a2==[44])=false:=by simpa using hp44
      by_cases hp41:pk Ts a2=[41]
      ·rw [prs_argsE hnl h3 hr hp44 hp41] at hR
       have hin:=Zc9 hk.ok h6'.2 (by rw [hp41];simp)
       have HXPa:=qh (∀ (wx:World) (NA2:Option Addr) (nc2:Nat) (Y:List Nat),Za4 wx B base TA tc Ts AA ac as_ Y a2 NA2 nc2 n2 (-1)->Calls Tryz.prog 61 #[.pointer (some ⟨B,0,none⟩),.string ⟨#[41]⟩] wx (PExp B base TA tc Ts AA ac as_ Y a2 NA2 nc2 n2 true wx)) (λwx NA2 nc2 Y hx=>by have:=HXP.out wx a2 NA2 nc2 n2 Y hx h6'.2;rw [hp41] at this;exact this)
       have HEMa:=qh (∀ (wx:World) (NA2:Option Addr) (nc2:Nat) (A':Option Addr) (c':Nat),Za4 wx B base TA tc Ts AA ac as_ (gOf A'++X) (a2+1) NA2 nc2 n2 (-1)->Zah wx w.heap.size 3 1 A' (l++[v]).length c' (ints (l++[v]))->Calls Tryz.prog 176 #[.pointer (some ⟨B,0,none⟩),nodeV 8 name 0 (.slice A' (l.length+1) c')] wx (PGo B base TA tc Ts AA ac as_ X NA2 R wx)) (λwx NA2 nc2 A' c' hx hg=>by
        have:=HEM.out wx a2 NA2 nc2 n2 (l++[v]) A' c' hx hin hg.ownS hg.ge
        rw [hR,show (l++[v]).length=l.length+1 by simp] at this
        exact this)
       clear h3 hr hR hp44 hp41 hnl HPK HXP HEM
       generalize pk Ts a2=y2 at *
       go_wp2_with (first|(go_at_call 62;refine HEX.out.mono ?_;rintro e u2 ⟨NA2,nc2,rfl,hs2,hO2,hS2⟩;have HS2:=hdQ hs2;have HO2:=hdQ hO2;have HSb2:=hdQ hS2;have g4:=hs2.cells.2.2.2.2.2.1;have hz2:=hO2.size;have HG2:=hdQ (HGR.out u2 hO2);clear hs2 hO2 hS2)|(at_builtin;refine wpA (w.heap.size) Tryz.underlying24 T.infoInt (ints l) (ints [v]) (Zde _) ?_ ?_ ?_;exact (gwx HG2.out);exact (ltt 1);rintro A' c' w2 gA;obtain ⟨z1,z2,z3,z4⟩:=HAPD.out _ _ _ _ _ _ _ HS2.out HO2.out HSb2.out gA;have HS3:=hdQ z1;have HG3:=hdQ z2;have HO3:=hdQ z3;have HSb3:=hdQ z4;have hz3:=z3.size;clear gA z1 z2 z3 z4)|(go_at_call 121;refine (HPK2.out _ _ _ _ HS3.out).mono ?_;rintro e u4 ⟨rfl,hb4⟩;have HS4:=hdQ (HS3.out.step hb4);have HG4:=hdQ (HG3.out.step hb4);have HO4:=qh (Only w.heap.size (B::gOf NA) w u4) (HO3.out.sub (Only.of_below hb4 []) hz3 (λx hx=>by cases hx));have hz4:=HO4.out.size;clear hb4)|(go_at_call 61;refine (HXPa.out _ _ _ _ HS4.out).mono ?_;rintro e u5 ⟨rfl,hO5,hs5,_⟩;have HS5:=hdQ (hs5 rfl);have HG5:=hdQ (HG4.out.only hO5 (λx hx=>⟨HG4.out.lt x hx,λr=>by simp at r;exact (HS4.out.2.xlt x (by simp [hx])).2 r⟩));have HO5:=qh (Only w.heap.size (B::gOf NA) w u5) (HO4.out.sub hO5 hz4 (λx hx=>.inl (by simp at hx;simp [hx])));clear hO5 hs5)|(go_at_call 176;refine (HEMa.out _ _ _ _ _ HS5.out HG5.out).mono ?_;rintro e u6 hg;obtain ⟨v6,rfl⟩:=hg.ret;have HG6:=hdQ (hg.comp HO5.out HSb3.out);clear hg)|fail)
       go_ret
       exact HG6.out
      ·rw [prs_argsX hnl h3 hr hp44 hp41] at hR
       subst hR
       have hdf:decide (pk Ts a2=[41])=false:=by simp [hp41]
       have HXPa:=qh (∀ (wx:World) (NA2:Option Addr) (nc2:Nat) (Y:List Nat),Za4 wx B base TA tc Ts AA ac as_ Y a2 NA2 nc2 n2 (-1)->Calls Tryz.prog 61 #[.pointer (some ⟨B,0,none⟩),.string ⟨#[41]⟩] wx (PExp B base TA tc Ts AA ac as_ Y a2 NA2 nc2 n2 false wx)) (λwx NA2 nc2 Y hx=>by have:=HXP.out wx a2 NA2 nc2 n2 Y hx h6'.2;rw [hdf] at this;exact this)
       clear h3 hr hp44 hp41 hnl HPK HXP HEM hdf
       generalize pk Ts a2=y2 at *
       go_wp2_with (first|(go_at_call 62;refine HEX.out.mono ?_;rintro e u2 ⟨NA2,nc2,rfl,hs2,hO2,hS2⟩;have HS2:=hdQ hs2;have HO2:=hdQ hO2;have HSb2:=hdQ hS2;have g4:=hs2.cells.2.2.2.2.2.1;have hz2:=hO2.size;have HG2:=hdQ (HGR.out u2 hO2);clear hs2 hO2 hS2)|(at_builtin;refine wpA (w.heap.size) Tryz.underlying24 T.infoInt (ints l) (ints [v]) (Zde _) ?_ ?_ ?_;exact (gwx HG2.out);exact (ltt 1);rintro A' c' w2 gA;obtain ⟨z1,z2,z3,z4⟩:=HAPD.out _ _ _ _ _ _ _ HS2.out HO2.out HSb2.out gA;have HS3:=hdQ z1;have HG3:=hdQ z2;have HO3:=hdQ z3;have HSb3:=hdQ z4;have hz3:=z3.size;clear gA z1 z2 z3 z4)|(go_at_call 121;refine (HPK2.out _ _ _ _ HS3.out).mono ?_;rintro e u4 ⟨rfl,hb4⟩;have HS4:=hdQ (HS3.out.step hb4);have HG4:=hdQ (HG3.out.step hb4);have HO4:=qh (Only w.heap.size (B::gOf NA) w u4) (HO3.out.sub (Only.of_below hb4 []) hz3 (λx hx=>by cases hx));have hz4:=HO4.out.size;clear hb4)|(go_at_call 61;refine (HXPa.out _ _ _ _ HS4.out).mono ?_;rintro e u5 ⟨rfl,hO5,_,hs5⟩;obtain ⟨b0,b1,b2,b3,hw5⟩:=hs5 rfl;have HW5:=hdQ hw5;have HO5:=qh (Only w.heap.size (B::gOf NA) w u5) (HO4.out.sub hO5 hz4 (λx hx=>.inl (by simp at hx;simp [hx])));clear hO5 hs5 hw5)|fail)
       go_ret
       exact ⟨0,b0,b1,b2,b3,rfl,HW5.out,hk.off _,HO5.out⟩
theorem prs_fac0 {T:List Zaq} {n d a:Nat} {ns:List Zac} (h:64<d):prs T (n+1) .fac d a ns=.bad (of_ T a):=by rw [prs,if_pos h]
theorem prs_facM {T:List Zaq} {n d a:Nat} {ns:List Zac} (h:¬ 64<d) (hp:pk T a=[45]):prs T (n+1) .fac d a ns=match prs T n .fac (d+1) (a+1) ns with | .ok v a1 n1=>emit T (3,[],0,[v]) a1 n1 | .bad o=>.bad o | .out=>.out:=by rw [prs,if_neg h,if_pos hp];rfl
theorem prs_facP {T:List Zaq} {n d a:Nat} {ns:List Zac} (h:¬ 64<d) (hp:pk T a=[40]):prs T (n+1) .fac d a ns=match prs T n (.bin true) (d+1) (a+1) ns with | .ok v a1 n1=>if pk T a1=[41] then .ok v (a1+1) n1 else .bad (of_ T a1) | .bad o=>.bad o | .out=>.out:=by rw [prs,if_neg h,if_neg (by rw [hp];decide),if_pos hp];rfl
theorem prs_facN {T:List Zaq} {n d a:Nat} {ns:List Zac} (h:¬ 64<d) (h1:pk T a≠[45]) (h2:pk T a≠[40]) (hk:kd T a=1):prs T (n+1) .fac d a ns=emit T (1,[],nm T a,[]) (a+1) ns:=by rw [prs,if_neg h,if_neg h1,if_neg h2,if_pos hk]
theorem prs_facC {T:List Zaq} {n d a:Nat} {ns:List Zac} (h:¬ 64<d) (h1:pk T a≠[45]) (h2:pk T a≠[40]) (hk:kd T a=2) (hq:pk T (a+1)=[40]):prs T (n+1) .fac d a ns=prs T n (.args (tx T a) []) (d+1) (a+2) ns:=by rw [prs,if_neg h,if_neg h1,if_neg h2,if_neg (by rw [hk];decide),if_pos hk,if_pos hq]
theorem prs_facV {T:List Zaq} {n d a:Nat} {ns:List Zac} (h:¬ 64<d) (h1:pk T a≠[45]) (h2:pk T a≠[40]) (hk:kd T a=2) (hq:pk T (a+1)≠[40]):prs T (n+1) .fac d a ns=emit T (2,tx T a,0,[]) (a+1) ns:=by rw [prs,if_neg h,if_neg h1,if_neg h2,if_neg (by rw [hk];decide),if_pos hk,if_neg hq]
theorem prs_facX {T:List Zaq} {n d a:Nat} {ns:List Zac} (h:¬ 64<d) (h1:pk T a≠[45]) (h2:pk T a≠[40]) (h3:kd T a≠1) (h4:kd T a≠2):prs T (n+1) .fac d a ns=.bad (of_ T a):=by rw [prs,if_neg h,if_neg h1,if_neg h2,if_neg h3,if_neg h4]
theorem S_fac0 {B base:Nat} {TA:Option Addr} {tc:Nat} {Ts:List Zaq} {AA:Option Addr} {ac:Nat} {as_:List Zaa} {n:Nat} (hk:TokK Ts) (ih:SPc B base TA tc Ts AA ac as_ n) {d a:Nat} {X:List Nat} {NA:Option Addr} {nc:Nat} {ns:List Zac} (w:World)
  (h:Za4 w B base TA tc Ts AA ac as_ X a NA nc ns (-1)) (ha:a<Ts.length) (hd:d<=65) (hn:1+4*(Ts.length-a)<=n+1) (h64:64<d) :
  Calls Tryz.prog 227 #[.pointer (some ⟨B,0,none⟩),.int .i64 d] w (PGo B base TA tc Ts AA ac as_ X NA (prs Ts (n+1) .fac d a ns) w):=by
 rw [prs_fac0 h64]
 have HFL:=hdQ (Zci w h ha)
 have HS:=hdQ h
 have h64':(64:Int)<d:=qo
 clear h h64 ih
 go_enter Tryz.func227,Tryz.ntmps227
 go_wp2_with fail
 refine HFL.out.mono ?_
 rintro e w2 ⟨rfl,rfl⟩
 go_wp2_with fail
 go_ret
 exact ⟨0,_,_,_,_,rfl,(HS.out.setBad _).1.drew,hk.off _,((Only.refl _ _ _).setCell qs _).drew⟩
theorem S_facM {B base:Nat} {TA:Option Addr} {tc:Nat} {Ts:List Zaq} {AA:Option Addr} {ac:Nat} {as_:List Zaa} {n:Nat} (hk:TokK Ts) (ih:SPc B base TA tc Ts AA ac as_ n) {d a:Nat} {X:List Nat} {NA:Option Addr} {nc:Nat} {ns:List Zac} (w:World)
  (h:Za4 w B base TA tc Ts AA ac as_ X a NA nc ns (-1)) (ha:a<Ts.length) (hd:d<=65) (hn:1+4*(Ts.length-a)<=n+1) (h64:¬ 64<d) (hp:pk Ts a=[45]) :
  Calls Tryz.prog 227 #[.pointer (some ⟨B,0,none⟩),.int .i64 d] w (PGo B base TA tc Ts AA ac as_ X NA (prs Ts (n+1) .fac d a ns) w):=by
 have hlen:=hk.len
 have HPK:=qh (∀ (wx:World) (a1:Nat) (NA1:Option Addr) (nc1:Nat) (n1:List Zac),Za4 wx B base TA tc Ts AA ac as_ X a1 NA1 nc1 n1 (-1)->a1<Ts.length->CB_ Tryz.prog 121 #[.pointer (some ⟨B,0,none⟩)] wx (str (pk Ts a1))) (λwx a1 NA1 nc1 n1 hx h1=>Zdi wx hx h1)
 have HFL:=qh (∀ (wx:World) (a1:Nat) (NA1:Option Addr) (nc1:Nat) (n1:List Zac),Za4 wx B base TA tc Ts AA ac as_ X a1 NA1 nc1 n1 (-1)->a1<Ts.length->Calls Tryz.prog 60 #[.pointer (some ⟨B,0,none⟩)] wx λe w'=>e=.returned (.int .i64 0)/\w'=(wx.setCell ⟨B,4,none⟩ (.int .i64 (of_ Ts a1))).drew) (λwx a1 NA1 nc1 n1 hx h1=>Zci wx hx h1)
 obtain ⟨hB,h0,h1,_,_,_,_⟩:=h.cells
 obtain ⟨ht1,ht2,b,o,rfl,hb,hbB,t0,t1,t2,t3⟩:=h.2.tokAt ha
 have HS:=hdQ h
 unfold maxLen at ht2
 have ha':(a:Int)<Ts.length:=qo
 have hd':¬ (64:Int)<d:=qo
 have hBw:¬ B=w.heap.size:=qo
 have hin:=Zc9 hk.ok ha (by rw [hp];simp)
 have hE:=Zbq hk.ok n .fac (d+1) (a+1) ns hin (by show 1+_<=n;omega)
 have HP1:=qh (∀ wx,Za4 wx B base (some ⟨b,o,none⟩) tc Ts AA ac as_ X a NA nc ns (-1)->CB_ Tryz.prog 121 #[.pointer (some ⟨B,0,none⟩)] wx (.string ⟨#[45]⟩)) (λwx hx=>by have:=HPK.out wx a NA nc ns hx ha;rw [hp] at this;exact this)
 have HFA:=qh (∀ wx,Za4 wx B base (some ⟨b,o,none⟩) tc Ts AA ac as_ X (a+1) NA nc ns (-1)->Calls Tryz.prog 227 #[.pointer (some ⟨B,0,none⟩),.int .i64 ((d:Int)+1)] wx (PGo B base (some ⟨b,o,none⟩) tc Ts AA ac as_ X NA (prs Ts n .fac (d+1) (a+1) ns) wx)) (λwx hx=>by have:=ih.fac (d+1) (a+1) X NA nc ns wx hx hin qo qo;simpa using this)
 have hR0:=prs_facM (n:=n) (ns:=ns) h64 hp
 obtain ⟨R,hRR⟩:=qv (prs Ts (n+1) .fac d a ns)
 rw [hRR] at hR0 ⊢
 have HR:=hdQ hR0
 clear hR0 hRR
 generalize kd Ts a=k at *
 generalize tx Ts a=x at *
 generalize nm Ts a=m at *
 generalize of_ Ts a=f at *
 clear h HPK HFL hp
 go_enter Tryz.func227,Tryz.ntmps227
 go_wp2_with fail
 go_region_held3 (λw'=>w'.cell? ⟨B,0,none⟩=some (.slice (some ⟨b,o,none⟩) Ts.length tc)/\w'.cell? ⟨B,1,none⟩=some (.int .i64 a)/\w'.cell? ⟨b,o+a*4,none⟩=some (.int .i64 k)/\w'.cell? ⟨b,o+a*4+1,none⟩=some (str x)/\w'.cell? ⟨b,o+a*4+2,none⟩=some (.int .i64 m)/\w'.cell? ⟨b,o+a*4+3,none⟩=some (.int .i64 f))
  (first|((try dsimp only);refine ⟨?_, ?_, ?_, ?_, ?_, ?_⟩<;>(go_simp;done))|go_keep)
  (fail)
 have HS1:=qh (Za4 (World.drew (w.alloc (.cells #[.int .i64 k,str x,.int .i64 m,.int .i64 f] 101))) B base (some ⟨b,o,none⟩) tc Ts AA ac as_ X a NA nc ns (-1)) (Za4.drew (Za4.alloc HS.out _))
 have HX1:=qh (Box (World.drew (w.alloc (.cells #[.int .i64 k,str x,.int .i64 m,.int .i64 f] 101))) w.heap.size [.int .i64 k,str x,.int .i64 m,.int .i64 f]) (Box.of_own (Own.drew (Own.new w 101 #[.int .i64 k,str x,.int .i64 m,.int .i64 f])))
 have HO1:=qh (Only w.heap.size (B::gOf NA) w (World.drew (w.alloc (.cells #[.int .i64 k,str x,.int .i64 m,.int .i64 f] 101)))) ((Only.refl _ _ _).al (Nat.le_refl _) _).drew
 generalize World.drew (w.alloc (.cells #[.int .i64 k,str x,.int .i64 m,.int .i64 f] 101))=w1 at *
 clear t0 t1 t2 t3 h0 h1
 go_wp2_with fail
 refine (HP1.out _ HS1.out).mono ?_
 rintro e w2 ⟨rfl,hb2⟩
 have HS2:=hdQ (HS1.out.step hb2)
 have HX2:=hdQ (HX1.out.step hb2)
 have HO2:=qh (Only w.heap.size (B::gOf NA) w w2) (HO1.out.sub (Only.of_below hb2 []) HO1.out.size (λx hx=>by cases hx))
 clear hb2
 obtain ⟨dB2,_,d12,_,_,d42,df2⟩:=HS2.out.cells
 have HSA:=qh (Za4 (w2.setCell ⟨B,1,none⟩ (.int .i64 ((a:Int)+1))) B base (some ⟨b,o,none⟩) tc Ts AA ac as_ X (a+1) NA nc ns (-1)) (by have:=HS2.out.setAt (a+1);simpa using this)
 have HOA:=qh (Only w.heap.size (B::gOf NA) w (w2.setCell ⟨B,1,none⟩ (.int .i64 ((a:Int)+1)))) (HO2.out.setCell qs _)
 clear ih
 cases hr:prs Ts n .fac (d+1) (a+1) ns with
 | out=>exact absurd hr hE.1
 | bad q =>
  rw [hr] at HFA
  have hb:=HR.out
  rw [hr] at hb
  (try dsimp only at hb)
  subst hb
  clear hr hE HR
  go_wp2_with fail
  refine (HFA.out _ HSA.out).mono ?_
  rintro e w3 hg
  have HG:=hdQ (hg.comp HOA.out (λx hx=>.inl hx))
  obtain ⟨r,b0,b1,b2,b3,rfl,hw3,hq3,hO3⟩:=hg
  have g4:=hw3.cell 4
  (try dsimp only [List.getElem?_cons_succ,List.getElem?_cons_zero] at g4)
  have HW3:=hdQ hw3
  clear hw3 hO3
  go_wp2_with fail
  go_ret
  obtain ⟨_,_,_,_,_,_,_,_,hOO⟩:=HG.out
  exact ⟨0,b0,b1,b2,b3,rfl,HW3.out,hq3,hOO⟩
 | ok v a1 n1 =>
  rw [hr] at HFA
  have h6:a+1+1<=a1/\a1<Ts.length:=hE.2 v a1 n1 hr
  have HEM:=qh (∀ (wx:World) (NA2:Option Addr) (nc2:Nat),Za4 wx B base (some ⟨b,o,none⟩) tc Ts AA ac as_ X a1 NA2 nc2 n1 (-1)->Calls Tryz.prog 176 #[.pointer (some ⟨B,0,none⟩),nodeV 3 [] 0 (.slice (some ⟨wx.heap.size,0,none⟩) 1 1)] (wx.alloc (.cells #[.int .i64 v] 3)) (PGo B base (some ⟨b,o,none⟩) tc Ts AA ac as_ X NA2 (emit Ts (3,[],0,[v]) a1 n1) (wx.alloc (.cells #[.int .i64 v] 3)))) (λwx NA2 nc2 hx =>
   S_l13Emit (args:=[v]) _ (hx.fresh_ _) qo h6.2 hlen hk.off (Zbu.some_ (Own.new wx 3 #[.int .i64 v]) rfl qs) (λy hy=>by
    obtain rfl:y=wx.heap.size:=by simpa [gOf] using hy
    exact λq=>by have:=(hx.2.xlt _ q).1;omega))
  have hb:=HR.out
  rw [hr] at hb
  (try dsimp only at hb)
  rw [<- hb] at HEM
  clear hr hE hb HR
  go_wp2_with fail
  refine (HFA.out _ HSA.out).mono ?_
  rintro e w3 ⟨NA3,nc3,rfl,hs3,hO3,hS3⟩
  have g4:=hs3.cells.2.2.2.2.2.1
  have HS3:=hdQ hs3
  have HOS:=hdQ (PGo.after HOA.out (λx hx=>.inl hx) hO3 hS3 (.cells #[.int .i64 v] 3))
  clear hs3 hO3 hS3
  go_wp2_with fail
  refine (HEM.out _ _ _ HS3.out).mono ?_
  rintro e w4 hg
  obtain ⟨v4,rfl⟩:=hg.ret
  have HG:=hdQ (hg.comp HOS.out.1 HOS.out.2)
  clear hg
  go_wp2_with fail
  go_ret
  exact HG.out
theorem S_facP {B base:Nat} {TA:Option Addr} {tc:Nat} {Ts:List Zaq} {AA:Option Addr} {ac:Nat} {as_:List Zaa} {n:Nat} (hk:TokK Ts) (ih:SPc B base TA tc Ts AA ac as_ n) {d a:Nat} {X:List Nat} {NA:Option Addr} {nc:Nat} {ns:List Zac} (w:World)
  (h:Za4 w B base TA tc Ts AA ac as_ X a NA nc ns (-1)) (ha:a<Ts.length) (hd:d<=65) (hn:1+4*(Ts.length-a)<=n+1) (h64:¬ 64<d) (hp:pk Ts a=[40]) :
  Calls Tryz.prog 227 #[.pointer (some ⟨B,0,none⟩),.int .i64 d] w (PGo B base TA tc Ts AA ac as_ X NA (prs Ts (n+1) .fac d a ns) w):=by
 have hlen:=hk.len
 have HPK:=qh (∀ (wx:World) (a1:Nat) (NA1:Option Addr) (nc1:Nat) (n1:List Zac),Za4 wx B base TA tc Ts AA ac as_ X a1 NA1 nc1 n1 (-1)->a1<Ts.length->CB_ Tryz.prog 121 #[.pointer (some ⟨B,0,none⟩)] wx (str (pk Ts a1))) (λwx a1 NA1 nc1 n1 hx h1=>Zdi wx hx h1)
 have HFL:=qh (∀ (wx:World) (a1:Nat) (NA1:Option Addr) (nc1:Nat) (n1:List Zac),Za4 wx B base TA tc Ts AA ac as_ X a1 NA1 nc1 n1 (-1)->a1<Ts.length->Calls Tryz.prog 60 #[.pointer (some ⟨B,0,none⟩)] wx λe w'=>e=.returned (.int .i64 0)/\w'=(wx.setCell ⟨B,4,none⟩ (.int .i64 (of_ Ts a1))).drew) (λwx a1 NA1 nc1 n1 hx h1=>Zci wx hx h1)
 obtain ⟨hB,h0,h1,_,_,_,_⟩:=h.cells
 obtain ⟨ht1,ht2,b,o,rfl,hb,hbB,t0,t1,t2,t3⟩:=h.2.tokAt ha
 have HS:=hdQ h
 unfold maxLen at ht2
 have ha':(a:Int)<Ts.length:=qo
 have hd':¬ (64:Int)<d:=qo
 have hBw:¬ B=w.heap.size:=qo
 have hin:=Zc9 hk.ok ha (by rw [hp];simp)
 have hE:=Zbq hk.ok n (.bin true) (d+1) (a+1) ns hin (by show 3+_<=n;omega)
 have HP1:=qh (∀ wx,Za4 wx B base (some ⟨b,o,none⟩) tc Ts AA ac as_ X a NA nc ns (-1)->CB_ Tryz.prog 121 #[.pointer (some ⟨B,0,none⟩)] wx (.string ⟨#[40]⟩)) (λwx hx=>by have:=HPK.out wx a NA nc ns hx ha;rw [hp] at this;exact this)
 have HXP:=qh (∀ (wx:World) (a1:Nat) (NA1:Option Addr) (nc1:Nat) (n1:List Zac),Za4 wx B base (some ⟨b,o,none⟩) tc Ts AA ac as_ X a1 NA1 nc1 n1 (-1)->a1<Ts.length->Calls Tryz.prog 61 #[.pointer (some ⟨B,0,none⟩),.string ⟨#[41]⟩] wx (PExp B base (some ⟨b,o,none⟩) tc Ts AA ac as_ X a1 NA1 nc1 n1 (decide (pk Ts a1=[41])) wx)) (λwx a1 NA1 nc1 n1 hx h1=>Zgd [41] wx hx h1 hlen)
 have HEX:=qh (∀ wx,Za4 wx B base (some ⟨b,o,none⟩) tc Ts AA ac as_ X (a+1) NA nc ns (-1)->Calls Tryz.prog 62 #[.pointer (some ⟨B,0,none⟩),.int .i64 ((d:Int)+1)] wx (PGo B base (some ⟨b,o,none⟩) tc Ts AA ac as_ X NA (prs Ts n (.bin true) (d+1) (a+1) ns) wx)) (λwx hx=>by have:=Zev ih (d:=d+1) wx hx hin qo qo;simpa using this)
 have hR0:=prs_facP (n:=n) (ns:=ns) h64 hp
 obtain ⟨R,hRR⟩:=qv (prs Ts (n+1) .fac d a ns)
 rw [hRR] at hR0 ⊢
 have HR:=hdQ hR0
 clear hR0 hRR
 generalize kd Ts a=k at *
 generalize tx Ts a=x at *
 generalize nm Ts a=m at *
 generalize of_ Ts a=f at *
 clear h HPK HFL hp
 go_enter Tryz.func227,Tryz.ntmps227
 go_wp2_with fail
 go_region_held3 (λw'=>w'.cell? ⟨B,0,none⟩=some (.slice (some ⟨b,o,none⟩) Ts.length tc)/\w'.cell? ⟨B,1,none⟩=some (.int .i64 a)/\w'.cell? ⟨b,o+a*4,none⟩=some (.int .i64 k)/\w'.cell? ⟨b,o+a*4+1,none⟩=some (str x)/\w'.cell? ⟨b,o+a*4+2,none⟩=some (.int .i64 m)/\w'.cell? ⟨b,o+a*4+3,none⟩=some (.int .i64 f))
  (first|((try dsimp only);refine ⟨?_, ?_, ?_, ?_, ?_, ?_⟩<;>(go_simp;done))|go_keep)
  (fail)
 have HS1:=qh (Za4 (World.drew (w.alloc (.cells #[.int .i64 k,str x,.int .i64 m,.int .i64 f] 101))) B base (some ⟨b,o,none⟩) tc Ts AA ac as_ X a NA nc ns (-1)) (Za4.drew (Za4.alloc HS.out _))
 have HX1:=qh (Box (World.drew (w.alloc (.cells #[.int .i64 k,str x,.int .i64 m,.int .i64 f] 101))) w.heap.size [.int .i64 k,str x,.int .i64 m,.int .i64 f]) (Box.of_own (Own.drew (Own.new w 101 #[.int .i64 k,str x,.int .i64 m,.int .i64 f])))
 have HO1:=qh (Only w.heap.size (B::gOf NA) w (World.drew (w.alloc (.cells #[.int .i64 k,str x,.int .i64 m,.int .i64 f] 101)))) ((Only.refl _ _ _).al (Nat.le_refl _) _).drew
 generalize World.drew (w.alloc (.cells #[.int .i64 k,str x,.int .i64 m,.int .i64 f] 101))=w1 at *
 clear t0 t1 t2 t3 h0 h1
 go_wp2_with fail
 refine (HP1.out _ HS1.out).mono ?_
 rintro e w2 ⟨rfl,hb2⟩
 have HS2:=hdQ (HS1.out.step hb2)
 have HX2:=hdQ (HX1.out.step hb2)
 have HO2:=qh (Only w.heap.size (B::gOf NA) w w2) (HO1.out.sub (Only.of_below hb2 []) HO1.out.size (λx hx=>by cases hx))
 clear hb2
 go_wp2_with fail
 refine (HP1.out _ HS2.out).mono ?_
 rintro e w3 ⟨rfl,hb3⟩
 have HS3:=hdQ (HS2.out.step hb3)
 have HX3:=hdQ (HX2.out.step hb3)
 have HO3:=qh (Only w.heap.size (B::gOf NA) w w3) (HO2.out.sub (Only.of_below hb3 []) HO2.out.size (λx hx=>by cases hx))
 clear hb3
 obtain ⟨dB3,_,d13,_,_,d43,df3⟩:=HS3.out.cells
 have HSA:=qh (Za4 (w3.setCell ⟨B,1,none⟩ (.int .i64 ((a:Int)+1))) B base (some ⟨b,o,none⟩) tc Ts AA ac as_ X (a+1) NA nc ns (-1)) (by have:=HS3.out.setAt (a+1);simpa using this)
 have HOA:=qh (Only w.heap.size (B::gOf NA) w (w3.setCell ⟨B,1,none⟩ (.int .i64 ((a:Int)+1)))) (HO3.out.setCell qs _)
 clear ih
 cases hr:prs Ts n (.bin true) (d+1) (a+1) ns with
 | out=>exact absurd hr hE.1
 | bad q =>
  rw [hr] at HEX
  have hb:=HR.out
  rw [hr] at hb
  (try dsimp only at hb)
  subst hb
  clear hr hE HR
  go_wp2_with fail
  refine (HEX.out _ HSA.out).mono ?_
  rintro e w4 hg
  have HG:=hdQ (hg.comp HOA.out (λx hx=>.inl hx))
  obtain ⟨r,b0,b1,b2,b3,rfl,hw3,hq3,hO3⟩:=hg
  have g4:=hw3.cell 4
  (try dsimp only [List.getElem?_cons_succ,List.getElem?_cons_zero] at g4)
  have HW3:=hdQ hw3
  clear hw3 hO3
  go_wp2_with fail
  go_ret
  obtain ⟨_,_,_,_,_,_,_,_,hOO⟩:=HG.out
  exact ⟨0,b0,b1,b2,b3,rfl,HW3.out,hq3,hOO⟩
 | ok v a1 n1 =>
  rw [hr] at HEX
  have h6:a+1+1<=a1/\a1<Ts.length:=hE.2 v a1 n1 hr
  have hb:=HR.out
  rw [hr] at hb
  (try dsimp only at hb)
  have HB:=hdQ hb
  clear hr hE HR hb
  go_wp2_with fail
  refine (HEX.out _ HSA.out).mono ?_
  rintro e w4 ⟨NA4,nc4,rfl,hs4,hO4,hS4⟩
  have g4:=hs4.cells.2.2.2.2.2.1
  have HX4:=hdQ (HXP.out w4 a1 NA4 nc4 n1 hs4 h6.2)
  have HOS:=hdQ (PGo.after HOA.out (λx hx=>.inl hx) hO4 hS4 (.cells #[] 3))
  have HO4:=qh (Only w.heap.size (B::gOf NA) w w4) (HOA.out.sub hO4 HOA.out.size (λx hx=>.inl hx))
  clear hs4 hO4 hS4
  by_cases hp41:pk Ts a1=[41]
  ·have hb:=HB.out
   rw [if_pos hp41] at hb
   subst hb
   rw [hp41] at HX4
   clear HXP hp41
   have HX5:=qh (Calls Tryz.prog 61 #[.pointer (some ⟨B,0,none⟩),.string ⟨#[41]⟩] w4 (PExp B base (some ⟨b,o,none⟩) tc Ts AA ac as_ X a1 NA4 nc4 n1 true w4)) HX4.out
   clear HX4
   go_wp2_with fail
   refine HX5.out.mono ?_
   rintro e w5 ⟨rfl,hO5,hs5,_⟩
   have HS5:=hdQ (hs5 rfl)
   have HO5:=qh (Only w.heap.size (B::gOf NA) w w5) (HO4.out.sub hO5 HO4.out.size (λx hx=>.inl (by simp at hx;simp [hx])))
   clear hO5 hs5
   go_wp2_with fail
   go_ret
   exact ⟨NA4,nc4,rfl,HS5.out,HO5.out,HOS.out.2⟩
  ·have hb:=HB.out
   rw [if_neg hp41] at hb
   subst hb
   have hdf:decide (pk Ts a1=[41])=false:=by simp [hp41]
   rw [hdf] at HX4
   clear HXP hp41 hdf
   go_wp2_with fail
   refine HX4.out.mono ?_
   rintro e w5 ⟨rfl,hO5,_,hs5⟩
   obtain ⟨b0,b1,b2,b3,hw5⟩:=hs5 rfl
   have HW5:=hdQ hw5
   have HO5:=qh (Only w.heap.size (B::gOf NA) w w5) (HO4.out.sub hO5 HO4.out.size (λx hx=>.inl (by simp at hx;simp [hx])))
   clear hO5 hs5 hw5
   go_wp2_with fail
   go_ret
   exact ⟨0,b0,b1,b2,b3,rfl,HW5.out,hk.off _,HO5.out⟩
theorem S_facN {B base:Nat} {TA:Option Addr} {tc:Nat} {Ts:List Zaq} {AA:Option Addr} {ac:Nat} {as_:List Zaa} {n:Nat} (hk:TokK Ts) (ih:SPc B base TA tc Ts AA ac as_ n) {d a:Nat} {X:List Nat} {NA:Option Addr} {nc:Nat} {ns:List Zac} (w:World)
  (h:Za4 w B base TA tc Ts AA ac as_ X a NA nc ns (-1)) (ha:a<Ts.length) (hd:d<=65) (hn:1+4*(Ts.length-a)<=n+1) (h64:¬ 64<d) (h45:pk Ts a≠[45]) (h40:pk Ts a≠[40]) (hk1:kd Ts a=1) :
  Calls Tryz.prog 227 #[.pointer (some ⟨B,0,none⟩),.int .i64 d] w (PGo B base TA tc Ts AA ac as_ X NA (prs Ts (n+1) .fac d a ns) w):=by
 have hlen:=hk.len
 have HPK:=qh (∀ (wx:World) (a1:Nat) (NA1:Option Addr) (nc1:Nat) (n1:List Zac),Za4 wx B base TA tc Ts AA ac as_ X a1 NA1 nc1 n1 (-1)->a1<Ts.length->CB_ Tryz.prog 121 #[.pointer (some ⟨B,0,none⟩)] wx (str (pk Ts a1))) (λwx a1 NA1 nc1 n1 hx h1=>Zdi wx hx h1)
 have HFL:=qh (∀ (wx:World) (a1:Nat) (NA1:Option Addr) (nc1:Nat) (n1:List Zac),Za4 wx B base TA tc Ts AA ac as_ X a1 NA1 nc1 n1 (-1)->a1<Ts.length->Calls Tryz.prog 60 #[.pointer (some ⟨B,0,none⟩)] wx λe w'=>e=.returned (.int .i64 0)/\w'=(wx.setCell ⟨B,4,none⟩ (.int .i64 (of_ Ts a1))).drew) (λwx a1 NA1 nc1 n1 hx h1=>Zci wx hx h1)
 obtain ⟨hB,h0,h1,_,_,_,_⟩:=h.cells
 obtain ⟨ht1,ht2,b,o,rfl,hb,hbB,t0,t1,t2,t3⟩:=h.2.tokAt ha
 have HS:=hdQ h
 unfold maxLen at ht2
 have ha':(a:Int)<Ts.length:=qo
 have hd':¬ (64:Int)<d:=qo
 have hBw:¬ B=w.heap.size:=qo
 have e1:(pk Ts a==[45])=false:=by simpa using h45
 have e2:(pk Ts a==[40])=false:=by simpa using h40
 have HP1:=qh (∀ wx,Za4 wx B base (some ⟨b,o,none⟩) tc Ts AA ac as_ X a NA nc ns (-1)->CB_ Tryz.prog 121 #[.pointer (some ⟨B,0,none⟩)] wx (str (pk Ts a))) (λwx hx=>HPK.out wx a NA nc ns hx ha)
 have hin:=kd_in hk.ok ha (by rw [hk1];decide)
 have HR:=hdQ (prs_facN (n:=n) (ns:=ns) h64 h45 h40 hk1)
 rw [HR.out]
 have HEM:=qh (∀ (wx:World),Za4 wx B base (some ⟨b,o,none⟩) tc Ts AA ac as_ X (a+1) NA nc ns (-1)->Calls Tryz.prog 176 #[.pointer (some ⟨B,0,none⟩),nodeV 1 [] (nm Ts a) (.slice none 0 0)] wx (PGo B base (some ⟨b,o,none⟩) tc Ts AA ac as_ X NA (emit Ts (1,[],nm Ts a,[]) (a+1) ns) wx)) (λwx hx =>
  S_l13Emit (args:=[]) (A:=none) wx hx qo hin hlen hk.off (Zbu.none_ _ _ _) (λy hy=>by simp [gOf] at hy))
 have HKD:=hdQ hk1
 rw [hk1] at t0
 clear hk1 h45 h40
 have hk1:(1:Int)=1:=rfl
 obtain ⟨k,hkk⟩:∃ k:Int,k=1:=⟨1,rfl⟩
 rw [<- hkk] at t0
 have HKK:=hdQ hkk
 clear hkk
 generalize emit Ts (1,[],nm Ts a,[]) (a+1) ns=r at *
 generalize tx Ts a=x at *
 generalize nm Ts a=m at *
 generalize of_ Ts a=f at *
 generalize pk Ts a=y at *
 clear h HPK HFL HR ih HKD
 go_enter Tryz.func227,Tryz.ntmps227
 go_wp2_with fail
 go_region_held3 (λw'=>w'.cell? ⟨B,0,none⟩=some (.slice (some ⟨b,o,none⟩) Ts.length tc)/\w'.cell? ⟨B,1,none⟩=some (.int .i64 a)/\w'.cell? ⟨b,o+a*4,none⟩=some (.int .i64 k)/\w'.cell? ⟨b,o+a*4+1,none⟩=some (str x)/\w'.cell? ⟨b,o+a*4+2,none⟩=some (.int .i64 m)/\w'.cell? ⟨b,o+a*4+3,none⟩=some (.int .i64 f))
  (first|((try dsimp only);refine ⟨?_, ?_, ?_, ?_, ?_, ?_⟩<;>(go_simp;done))|go_keep)
  (fail)
 have HS1:=qh (Za4 (World.drew (w.alloc (.cells #[.int .i64 k,str x,.int .i64 m,.int .i64 f] 101))) B base (some ⟨b,o,none⟩) tc Ts AA ac as_ X a NA nc ns (-1)) (Za4.drew (Za4.alloc HS.out _))
 have HX1:=qh (Box (World.drew (w.alloc (.cells #[.int .i64 k,str x,.int .i64 m,.int .i64 f] 101))) w.heap.size [.int .i64 k,str x,.int .i64 m,.int .i64 f]) (Box.of_own (Own.drew (Own.new w 101 #[.int .i64 k,str x,.int .i64 m,.int .i64 f])))
 have HO1:=qh (Only w.heap.size (B::gOf NA) w (World.drew (w.alloc (.cells #[.int .i64 k,str x,.int .i64 m,.int .i64 f] 101)))) ((Only.refl _ _ _).al (Nat.le_refl _) _).drew
 generalize World.drew (w.alloc (.cells #[.int .i64 k,str x,.int .i64 m,.int .i64 f] 101))=w1 at *
 clear t0 t1 t2 t3 h0 h1
 go_wp2_with fail
 refine (HP1.out _ HS1.out).mono ?_
 rintro e w2 ⟨rfl,hb2⟩
 have HS2:=hdQ (HS1.out.step hb2)
 have HX2:=hdQ (HX1.out.step hb2)
 have HO2:=qh (Only w.heap.size (B::gOf NA) w w2) (HO1.out.sub (Only.of_below hb2 []) HO1.out.size (λx hx=>by cases hx))
 clear hb2
 go_wp2_with fail
 refine (HP1.out _ HS2.out).mono ?_
 rintro e w3 ⟨rfl,hb3⟩
 have HS3:=hdQ (HS2.out.step hb3)
 have HX3:=hdQ (HX2.out.step hb3)
 have HO3:=qh (Only w.heap.size (B::gOf NA) w w3) (HO2.out.sub (Only.of_below hb3 []) HO2.out.size (λx hx=>by cases hx))
 clear hb3
 obtain ⟨dB3,_,d13,_,_,d43,df3⟩:=HS3.out.cells
 obtain ⟨xz3,x03,x13,x23,x33⟩:=HX3.out.open4
 have hBx3:¬ w.heap.size=B:=qo
 have HSA:=qh (Za4 (w3.setCell ⟨B,1,none⟩ (.int .i64 ((a:Int)+1))) B base (some ⟨b,o,none⟩) tc Ts AA ac as_ X (a+1) NA nc ns (-1)) (by have:=HS3.out.setAt (a+1);simpa using this)
 have HOA:=qh (Only w.heap.size (B::gOf NA) w (w3.setCell ⟨B,1,none⟩ (.int .i64 ((a:Int)+1)))) (HO3.out.setCell qs _)
 obtain rfl:=HKK.out
 go_wp2_with fail
 refine (HEM.out _ HSA.out).mono ?_
 rintro e w4 hg
 obtain ⟨v4,rfl⟩:=hg.ret
 have HG:=hdQ (hg.comp HOA.out (λx hx=>.inl hx))
 clear hg
 go_wp2_with fail
 go_ret
 exact HG.out
theorem S_facC {B base:Nat} {TA:Option Addr} {tc:Nat} {Ts:List Zaq} {AA:Option Addr} {ac:Nat} {as_:List Zaa} {n:Nat} (hk:TokK Ts) (ih:SPc B base TA tc Ts AA ac as_ n) {d a:Nat} {X:List Nat} {NA:Option Addr} {nc:Nat} {ns:List Zac} (w:World)
  (h:Za4 w B base TA tc Ts AA ac as_ X a NA nc ns (-1)) (ha:a<Ts.length) (hd:d<=65) (hn:1+4*(Ts.length-a)<=n+1) (h64:¬ 64<d) (h45:pk Ts a≠[45]) (h40:pk Ts a≠[40]) (hk1:kd Ts a=2) (hq:pk Ts (a+1)=[40]) :
  Calls Tryz.prog 227 #[.pointer (some ⟨B,0,none⟩),.int .i64 d] w (PGo B base TA tc Ts AA ac as_ X NA (prs Ts (n+1) .fac d a ns) w):=by
 have hlen:=hk.len
 have HPK:=qh (∀ (wx:World) (a1:Nat) (NA1:Option Addr) (nc1:Nat) (n1:List Zac),Za4 wx B base TA tc Ts AA ac as_ X a1 NA1 nc1 n1 (-1)->a1<Ts.length->CB_ Tryz.prog 121 #[.pointer (some ⟨B,0,none⟩)] wx (str (pk Ts a1))) (λwx a1 NA1 nc1 n1 hx h1=>Zdi wx hx h1)
 have HFL:=qh (∀ (wx:World) (a1:Nat) (NA1:Option Addr) (nc1:Nat) (n1:List Zac),Za4 wx B base TA tc Ts AA ac as_ X a1 NA1 nc1 n1 (-1)->a1<Ts.length->Calls Tryz.prog 60 #[.pointer (some ⟨B,0,none⟩)] wx λe w'=>e=.returned (.int .i64 0)/\w'=(wx.setCell ⟨B,4,none⟩ (.int .i64 (of_ Ts a1))).drew) (λwx a1 NA1 nc1 n1 hx h1=>Zci wx hx h1)
 obtain ⟨hB,h0,h1,_,_,_,_⟩:=h.cells
 obtain ⟨ht1,ht2,b,o,rfl,hb,hbB,t0,t1,t2,t3⟩:=h.2.tokAt ha
 have HS:=hdQ h
 unfold maxLen at ht2
 have ha':(a:Int)<Ts.length:=qo
 have hd':¬ (64:Int)<d:=qo
 have hBw:¬ B=w.heap.size:=qo
 have e1:(pk Ts a==[45])=false:=by simpa using h45
 have e2:(pk Ts a==[40])=false:=by simpa using h40
 have HP1:=qh (∀ wx,Za4 wx B base (some ⟨b,o,none⟩) tc Ts AA ac as_ X a NA nc ns (-1)->CB_ Tryz.prog 121 #[.pointer (some ⟨B,0,none⟩)] wx (str (pk Ts a))) (λwx hx=>HPK.out wx a NA nc ns hx ha)
 have hin:=kd_in hk.ok ha (by rw [hk1];decide)
 have hin2:=Zc9 hk.ok hin (by rw [hq];simp)
 have HP2:=qh (∀ wx,Za4 wx B base (some ⟨b,o,none⟩) tc Ts AA ac as_ X (a+1) NA nc ns (-1)->CB_ Tryz.prog 121 #[.pointer (some ⟨B,0,none⟩)] wx (.string ⟨#[40]⟩)) (λwx hx=>by have:=HPK.out wx (a+1) NA nc ns hx hin;rw [hq] at this;exact this)
 have HR:=hdQ (prs_facC (n:=n) (ns:=ns) h64 h45 h40 hk1 hq)
 rw [HR.out]
 have HCL:=qh (∀ (wx:World),Za4 wx B base (some ⟨b,o,none⟩) tc Ts AA ac as_ X (a+2) NA nc ns (-1)->Calls Tryz.prog 264 #[.pointer (some ⟨B,0,none⟩),str (tx Ts a),.int .i64 ((d:Int)+1)] wx (PGo B base (some ⟨b,o,none⟩) tc Ts AA ac as_ X NA (prs Ts n (.args (tx Ts a) []) (d+1) (a+2) ns) wx)) (λwx hx=>by have:=ih.cal (tx Ts a) (d+1) (a+2) X NA nc ns wx hx hin2 qo qo;simpa using this)
 generalize prs Ts n (.args (tx Ts a) []) (d+1) (a+2) ns=r at *
 clear hq
 rw [hk1] at t0
 clear hk1 h45 h40
 obtain ⟨k,hkk⟩:∃ k:Int,k=2:=⟨2,rfl⟩
 rw [<- hkk] at t0
 have HKK:=hdQ hkk
 clear hkk
 generalize tx Ts a=x at *
 generalize nm Ts a=m at *
 generalize of_ Ts a=f at *
 generalize pk Ts a=y at *
 clear h HPK HFL HR ih
 go_enter Tryz.func227,Tryz.ntmps227
 go_wp2_with fail
 go_region_held3 (λw'=>w'.cell? ⟨B,0,none⟩=some (.slice (some ⟨b,o,none⟩) Ts.length tc)/\w'.cell? ⟨B,1,none⟩=some (.int .i64 a)/\w'.cell? ⟨b,o+a*4,none⟩=some (.int .i64 k)/\w'.cell? ⟨b,o+a*4+1,none⟩=some (str x)/\w'.cell? ⟨b,o+a*4+2,none⟩=some (.int .i64 m)/\w'.cell? ⟨b,o+a*4+3,none⟩=some (.int .i64 f))
  (first|((try dsimp only);refine ⟨?_, ?_, ?_, ?_, ?_, ?_⟩<;>(go_simp;done))|go_keep)
  (fail)
 have HS1:=qh (Za4 (World.drew (w.alloc (.cells #[.int .i64 k,str x,.int .i64 m,.int .i64 f] 101))) B base (some ⟨b,o,none⟩) tc Ts AA ac as_ X a NA nc ns (-1)) (Za4.drew (Za4.alloc HS.out _))
 have HX1:=qh (Box (World.drew (w.alloc (.cells #[.int .i64 k,str x,.int .i64 m,.int .i64 f] 101))) w.heap.size [.int .i64 k,str x,.int .i64 m,.int .i64 f]) (Box.of_own (Own.drew (Own.new w 101 #[.int .i64 k,str x,.int .i64 m,.int .i64 f])))
 have HO1:=qh (Only w.heap.size (B::gOf NA) w (World.drew (w.alloc (.cells #[.int .i64 k,str x,.int .i64 m,.int .i64 f] 101)))) ((Only.refl _ _ _).al (Nat.le_refl _) _).drew
 generalize World.drew (w.alloc (.cells #[.int .i64 k,str x,.int .i64 m,.int .i64 f] 101))=w1 at *
 clear t0 t1 t2 t3 h0 h1
 go_wp2_with fail
 refine (HP1.out _ HS1.out).mono ?_
 rintro e w2 ⟨rfl,hb2⟩
 have HS2:=hdQ (HS1.out.step hb2)
 have HX2:=hdQ (HX1.out.step hb2)
 have HO2:=qh (Only w.heap.size (B::gOf NA) w w2) (HO1.out.sub (Only.of_below hb2 []) HO1.out.size (λx hx=>by cases hx))
 clear hb2
 go_wp2_with fail
 refine (HP1.out _ HS2.out).mono ?_
 rintro e w3 ⟨rfl,hb3⟩
 have HS3:=hdQ (HS2.out.step hb3)
 have HX3:=hdQ (HX2.out.step hb3)
 have HO3:=qh (Only w.heap.size (B::gOf NA) w w3) (HO2.out.sub (Only.of_below hb3 []) HO2.out.size (λx hx=>by cases hx))
 clear hb3
 obtain ⟨dB3,_,d13,_,_,d43,df3⟩:=HS3.out.cells
 obtain ⟨xz3,x03,x13,x23,x33⟩:=HX3.out.open4
 have hBx3:¬ w.heap.size=B:=qo
 have HSA:=qh (Za4 (w3.setCell ⟨B,1,none⟩ (.int .i64 ((a:Int)+1))) B base (some ⟨b,o,none⟩) tc Ts AA ac as_ X (a+1) NA nc ns (-1)) (by have:=HS3.out.setAt (a+1);simpa using this)
 have HOA:=qh (Only w.heap.size (B::gOf NA) w (w3.setCell ⟨B,1,none⟩ (.int .i64 ((a:Int)+1)))) (HO3.out.setCell qs _)
 have HXA:=qh (Box (w3.setCell ⟨B,1,none⟩ (.int .i64 ((a:Int)+1))) w.heap.size [.int .i64 k,str x,.int .i64 m,.int .i64 f]) (by refine Box.mk4 (by simpa using HX3.out.1) ?_ ?_ ?_ ?_<;>(go_simp;done))
 obtain rfl:=HKK.out
 go_wp2_with fail
 refine (HP2.out _ HSA.out).mono ?_
 rintro e w4 ⟨rfl,hb4⟩
 have HS4:=hdQ (HSA.out.step hb4)
 have HX4:=hdQ (HXA.out.step hb4)
 have HO4:=qh (Only w.heap.size (B::gOf NA) w w4) (HOA.out.sub (Only.of_below hb4 []) HOA.out.size (λx hx=>by cases hx))
 clear hb4 x03 x13 x23 x33 d13 d43 df3
 obtain ⟨dB4,_,d14,_,_,d44,df4⟩:=HS4.out.cells
 obtain ⟨xz4,x04,x14,x24,x34⟩:=HX4.out.open4
 have hBx4:¬ w.heap.size=B:=qo
 have HSB:=qh (Za4 (w4.setCell ⟨B,1,none⟩ (.int .i64 ((a:Int)+1+1))) B base (some ⟨b,o,none⟩) tc Ts AA ac as_ X (a+2) NA nc ns (-1)) (by have:=HS4.out.setAt (a+2);rw [show ((a+2:Nat):Int)=(a:Int)+1+1 by omega] at this;exact this)
 have HOB:=qh (Only w.heap.size (B::gOf NA) w (w4.setCell ⟨B,1,none⟩ (.int .i64 ((a:Int)+1+1)))) (HO4.out.setCell qs _)
 rw [show ((a+1:Nat):Int)=(a:Int)+1 by omega] at d14
 have haw:IntKind.i64.wrap ((a:Int)+1+1)=(a:Int)+1+1:=IntWalk.i64_in _ qo
 go_wp2_with fail
 refine (HCL.out _ HSB.out).mono ?_
 rintro e w5 hg
 obtain ⟨v5,rfl⟩:=hg.ret
 have HG:=hdQ (hg.comp HOB.out (λx hx=>.inl hx))
 clear hg
 go_wp2_with fail
 go_ret
 exact HG.out
theorem S_facV {B base:Nat} {TA:Option Addr} {tc:Nat} {Ts:List Zaq} {AA:Option Addr} {ac:Nat} {as_:List Zaa} {n:Nat} (hk:TokK Ts) (ih:SPc B base TA tc Ts AA ac as_ n) {d a:Nat} {X:List Nat} {NA:Option Addr} {nc:Nat} {ns:List Zac} (w:World)
  (h:Za4 w B base TA tc Ts AA ac as_ X a NA nc ns (-1)) (ha:a<Ts.length) (hd:d<=65) (hn:1+4*(Ts.length-a)<=n+1) (h64:¬ 64<d) (h45:pk Ts a≠[45]) (h40:pk Ts a≠[40]) (hk1:kd Ts a=2) (hq:pk Ts (a+1)≠[40]) :
  Calls Tryz.prog 227 #[.pointer (some ⟨B,0,none⟩),.int .i64 d] w (PGo B base TA tc Ts AA ac as_ X NA (prs Ts (n+1) .fac d a ns) w):=by
 have hlen:=hk.len
 have HPK:=qh (∀ (wx:World) (a1:Nat) (NA1:Option Addr) (nc1:Nat) (n1:List Zac),Za4 wx B base TA tc Ts AA ac as_ X a1 NA1 nc1 n1 (-1)->a1<Ts.length->CB_ Tryz.prog 121 #[.pointer (some ⟨B,0,none⟩)] wx (str (pk Ts a1))) (λwx a1 NA1 nc1 n1 hx h1=>Zdi wx hx h1)
 have HFL:=qh (∀ (wx:World) (a1:Nat) (NA1:Option Addr) (nc1:Nat) (n1:List Zac),Za4 wx B base TA tc Ts AA ac as_ X a1 NA1 nc1 n1 (-1)->a1<Ts.length->Calls Tryz.prog 60 #[.pointer (some ⟨B,0,none⟩)] wx λe w'=>e=.returned (.int .i64 0)/\w'=(wx.setCell ⟨B,4,none⟩ (.int .i64 (of_ Ts a1))).drew) (λwx a1 NA1 nc1 n1 hx h1=>Zci wx hx h1)
 obtain ⟨hB,h0,h1,_,_,_,_⟩:=h.cells
 obtain ⟨ht1,ht2,b,o,rfl,hb,hbB,t0,t1,t2,t3⟩:=h.2.tokAt ha
 have HS:=hdQ h
 unfold maxLen at ht2
 have ha':(a:Int)<Ts.length:=qo
 have hd':¬ (64:Int)<d:=qo
 have hBw:¬ B=w.heap.size:=qo
 have e1:(pk Ts a==[45])=false:=by simpa using h45
 have e2:(pk Ts a==[40])=false:=by simpa using h40
 have HP1:=qh (∀ wx,Za4 wx B base (some ⟨b,o,none⟩) tc Ts AA ac as_ X a NA nc ns (-1)->CB_ Tryz.prog 121 #[.pointer (some ⟨B,0,none⟩)] wx (str (pk Ts a))) (λwx hx=>HPK.out wx a NA nc ns hx ha)
 have hin:=kd_in hk.ok ha (by rw [hk1];decide)
 have e3:(pk Ts (a+1)==[40])=false:=by simpa using hq
 have HP2:=qh (∀ wx,Za4 wx B base (some ⟨b,o,none⟩) tc Ts AA ac as_ X (a+1) NA nc ns (-1)->CB_ Tryz.prog 121 #[.pointer (some ⟨B,0,none⟩)] wx (str (pk Ts (a+1)))) (λwx hx=>HPK.out wx (a+1) NA nc ns hx hin)
 have HR:=hdQ (prs_facV (n:=n) (ns:=ns) h64 h45 h40 hk1 hq)
 rw [HR.out]
 have HEM:=qh (∀ (wx:World),Za4 wx B base (some ⟨b,o,none⟩) tc Ts AA ac as_ X (a+1) NA nc ns (-1)->Calls Tryz.prog 176 #[.pointer (some ⟨B,0,none⟩),nodeV 2 (tx Ts a) 0 (.slice none 0 0)] wx (PGo B base (some ⟨b,o,none⟩) tc Ts AA ac as_ X NA (emit Ts (2,tx Ts a,0,[]) (a+1) ns) wx)) (λwx hx =>
  S_l13Emit (args:=[]) (A:=none) wx hx qo hin hlen hk.off (Zbu.none_ _ _ _) (λy hy=>by simp [gOf] at hy))
 generalize emit Ts (2,tx Ts a,0,[]) (a+1) ns=r at *
 generalize pk Ts (a+1)=y2 at *
 clear hq
 rw [hk1] at t0
 clear hk1 h45 h40
 obtain ⟨k,hkk⟩:∃ k:Int,k=2:=⟨2,rfl⟩
 rw [<- hkk] at t0
 have HKK:=hdQ hkk
 clear hkk
 generalize tx Ts a=x at *
 generalize nm Ts a=m at *
 generalize of_ Ts a=f at *
 generalize pk Ts a=y at *
 clear h HPK HFL HR ih
 go_enter Tryz.func227,Tryz.ntmps227
 go_wp2_with fail
 go_region_held3 (λw'=>w'.cell? ⟨B,0,none⟩=some (.slice (some ⟨b,o,none⟩) Ts.length tc)/\w'.cell? ⟨B,1,none⟩=some (.int .i64 a)/\w'.cell? ⟨b,o+a*4,none⟩=some (.int .i64 k)/\w'.cell? ⟨b,o+a*4+1,none⟩=some (str x)/\w'.cell? ⟨b,o+a*4+2,none⟩=some (.int .i64 m)/\w'.cell? ⟨b,o+a*4+3,none⟩=some (.int .i64 f))
  (first|((try dsimp only);refine ⟨?_, ?_, ?_, ?_, ?_, ?_⟩<;>(go_simp;done))|go_keep)
  (fail)
 have HS1:=qh (Za4 (World.drew (w.alloc (.cells #[.int .i64 k,str x,.int .i64 m,.int .i64 f] 101))) B base (some ⟨b,o,none⟩) tc Ts AA ac as_ X a NA nc ns (-1)) (Za4.drew (Za4.alloc HS.out _))
 have HX1:=qh (Box (World.drew (w.alloc (.cells #[.int .i64 k,str x,.int .i64 m,.int .i64 f] 101))) w.heap.size [.int .i64 k,str x,.int .i64 m,.int .i64 f]) (Box.of_own (Own.drew (Own.new w 101 #[.int .i64 k,str x,.int .i64 m,.int .i64 f])))
 have HO1:=qh (Only w.heap.size (B::gOf NA) w (World.drew (w.alloc (.cells #[.int .i64 k,str x,.int .i64 m,.int .i64 f] 101)))) ((Only.refl _ _ _).al (Nat.le_refl _) _).drew
 generalize World.drew (w.alloc (.cells #[.int .i64 k,str x,.int .i64 m,.int .i64 f] 101))=w1 at *
 clear t0 t1 t2 t3 h0 h1
 go_wp2_with fail
 refine (HP1.out _ HS1.out).mono ?_
 rintro e w2 ⟨rfl,hb2⟩
 have HS2:=hdQ (HS1.out.step hb2)
 have HX2:=hdQ (HX1.out.step hb2)
 have HO2:=qh (Only w.heap.size (B::gOf NA) w w2) (HO1.out.sub (Only.of_below hb2 []) HO1.out.size (λx hx=>by cases hx))
 clear hb2
 go_wp2_with fail
 refine (HP1.out _ HS2.out).mono ?_
 rintro e w3 ⟨rfl,hb3⟩
 have HS3:=hdQ (HS2.out.step hb3)
 have HX3:=hdQ (HX2.out.step hb3)
 have HO3:=qh (Only w.heap.size (B::gOf NA) w w3) (HO2.out.sub (Only.of_below hb3 []) HO2.out.size (λx hx=>by cases hx))
 clear hb3
 obtain ⟨dB3,_,d13,_,_,d43,df3⟩:=HS3.out.cells
 obtain ⟨xz3,x03,x13,x23,x33⟩:=HX3.out.open4
 have hBx3:¬ w.heap.size=B:=qo
 have HSA:=qh (Za4 (w3.setCell ⟨B,1,none⟩ (.int .i64 ((a:Int)+1))) B base (some ⟨b,o,none⟩) tc Ts AA ac as_ X (a+1) NA nc ns (-1)) (by have:=HS3.out.setAt (a+1);simpa using this)
 have HOA:=qh (Only w.heap.size (B::gOf NA) w (w3.setCell ⟨B,1,none⟩ (.int .i64 ((a:Int)+1)))) (HO3.out.setCell qs _)
 have HXA:=qh (Box (w3.setCell ⟨B,1,none⟩ (.int .i64 ((a:Int)+1))) w.heap.size [.int .i64 k,str x,.int .i64 m,.int .i64 f]) (by refine Box.mk4 (by simpa using HX3.out.1) ?_ ?_ ?_ ?_<;>(go_simp;done))
 obtain rfl:=HKK.out
 go_wp2_with fail
 refine (HP2.out _ HSA.out).mono ?_
 rintro e w4 ⟨rfl,hb4⟩
 have HS4:=hdQ (HSA.out.step hb4)
 have HX4:=hdQ (HXA.out.step hb4)
 have HO4:=qh (Only w.heap.size (B::gOf NA) w w4) (HOA.out.sub (Only.of_below hb4 []) HOA.out.size (λx hx=>by cases hx))
 clear hb4 x03 x13 x23 x33 d13 d43 df3
 obtain ⟨dB4,_,d14,_,_,d44,df4⟩:=HS4.out.cells
 obtain ⟨xz4,x04,x14,x24,x34⟩:=HX4.out.open4
 have hBx4:¬ w.heap.size=B:=qo
 go_wp2_with fail
 refine (HEM.out _ HS4.out).mono ?_
 rintro e w5 hg
 obtain ⟨v5,rfl⟩:=hg.ret
 have HG:=hdQ (hg.comp HO4.out (λx hx=>.inl hx))
 clear hg
 go_wp2_with fail
 go_ret
 exact HG.out
theorem S_facX {B base:Nat} {TA:Option Addr} {tc:Nat} {Ts:List Zaq} {AA:Option Addr} {ac:Nat} {as_:List Zaa} {n:Nat} (hk:TokK Ts) (ih:SPc B base TA tc Ts AA ac as_ n) {d a:Nat} {X:List Nat} {NA:Option Addr} {nc:Nat} {ns:List Zac} (w:World)
  (h:Za4 w B base TA tc Ts AA ac as_ X a NA nc ns (-1)) (ha:a<Ts.length) (hd:d<=65) (hn:1+4*(Ts.length-a)<=n+1) (h64:¬ 64<d) (h45:pk Ts a≠[45]) (h40:pk Ts a≠[40]) (hk1:kd Ts a≠1) (hk2:kd Ts a≠2) :
  Calls Tryz.prog 227 #[.pointer (some ⟨B,0,none⟩),.int .i64 d] w (PGo B base TA tc Ts AA ac as_ X NA (prs Ts (n+1) .fac d a ns) w):=by
 have hlen:=hk.len
 have HPK:=qh (∀ (wx:World) (a1:Nat) (NA1:Option Addr) (nc1:Nat) (n1:List Zac),Za4 wx B base TA tc Ts AA ac as_ X a1 NA1 nc1 n1 (-1)->a1<Ts.length->CB_ Tryz.prog 121 #[.pointer (some ⟨B,0,none⟩)] wx (str (pk Ts a1))) (λwx a1 NA1 nc1 n1 hx h1=>Zdi wx hx h1)
 have HFL:=qh (∀ (wx:World) (a1:Nat) (NA1:Option Addr) (nc1:Nat) (n1:List Zac),Za4 wx B base TA tc Ts AA ac as_ X a1 NA1 nc1 n1 (-1)->a1<Ts.length->Calls Tryz.prog 60 #[.pointer (some ⟨B,0,none⟩)] wx λe w'=>e=.returned (.int .i64 0)/\w'=(wx.setCell ⟨B,4,none⟩ (.int .i64 (of_ Ts a1))).drew) (λwx a1 NA1 nc1 n1 hx h1=>Zci wx hx h1)
 obtain ⟨hB,h0,h1,_,_,_,_⟩:=h.cells
 obtain ⟨ht1,ht2,b,o,rfl,hb,hbB,t0,t1,t2,t3⟩:=h.2.tokAt ha
 have HS:=hdQ h
 unfold maxLen at ht2
 have ha':(a:Int)<Ts.length:=qo
 have hd':¬ (64:Int)<d:=qo
 have hBw:¬ B=w.heap.size:=qo
 have e1:(pk Ts a==[45])=false:=by simpa using h45
 have e2:(pk Ts a==[40])=false:=by simpa using h40
 have HP1:=qh (∀ wx,Za4 wx B base (some ⟨b,o,none⟩) tc Ts AA ac as_ X a NA nc ns (-1)->CB_ Tryz.prog 121 #[.pointer (some ⟨B,0,none⟩)] wx (str (pk Ts a))) (λwx hx=>HPK.out wx a NA nc ns hx ha)
 have HR:=hdQ (prs_facX (n:=n) (ns:=ns) h64 h45 h40 hk1 hk2)
 rw [HR.out]
 have HF1:=qh (∀ wx,Za4 wx B base (some ⟨b,o,none⟩) tc Ts AA ac as_ X a NA nc ns (-1)->Calls Tryz.prog 60 #[.pointer (some ⟨B,0,none⟩)] wx λe w'=>e=.returned (.int .i64 0)/\w'=(wx.setCell ⟨B,4,none⟩ (.int .i64 (of_ Ts a))).drew) (λwx hx=>HFL.out wx a NA nc ns hx ha)
 have HOF:=hdQ (hk.off a)
 have e3:(kd Ts a==1)=false:=by simpa using hk1
 have e4:(kd Ts a==2)=false:=by simpa using hk2
 clear hk1 hk2 h45 h40
 generalize kd Ts a=k at *
 generalize tx Ts a=x at *
 generalize nm Ts a=m at *
 generalize of_ Ts a=f at *
 generalize pk Ts a=y at *
 clear h HPK HFL HR ih
 go_enter Tryz.func227,Tryz.ntmps227
 go_wp2_with fail
 go_region_held3 (λw'=>w'.cell? ⟨B,0,none⟩=some (.slice (some ⟨b,o,none⟩) Ts.length tc)/\w'.cell? ⟨B,1,none⟩=some (.int .i64 a)/\w'.cell? ⟨b,o+a*4,none⟩=some (.int .i64 k)/\w'.cell? ⟨b,o+a*4+1,none⟩=some (str x)/\w'.cell? ⟨b,o+a*4+2,none⟩=some (.int .i64 m)/\w'.cell? ⟨b,o+a*4+3,none⟩=some (.int .i64 f))
  (first|((try dsimp only);refine ⟨?_, ?_, ?_, ?_, ?_, ?_⟩<;>(go_simp;done))|go_keep)
  (fail)
 have HS1:=qh (Za4 (World.drew (w.alloc (.cells #[.int .i64 k,str x,.int .i64 m,.int .i64 f] 101))) B base (some ⟨b,o,none⟩) tc Ts AA ac as_ X a NA nc ns (-1)) (Za4.drew (Za4.alloc HS.out _))
 have HX1:=qh (Box (World.drew (w.alloc (.cells #[.int .i64 k,str x,.int .i64 m,.int .i64 f] 101))) w.heap.size [.int .i64 k,str x,.int .i64 m,.int .i64 f]) (Box.of_own (Own.drew (Own.new w 101 #[.int .i64 k,str x,.int .i64 m,.int .i64 f])))
 have HO1:=qh (Only w.heap.size (B::gOf NA) w (World.drew (w.alloc (.cells #[.int .i64 k,str x,.int .i64 m,.int .i64 f] 101)))) ((Only.refl _ _ _).al (Nat.le_refl _) _).drew
 generalize World.drew (w.alloc (.cells #[.int .i64 k,str x,.int .i64 m,.int .i64 f] 101))=w1 at *
 clear t0 t1 t2 t3 h0 h1
 go_wp2_with fail
 refine (HP1.out _ HS1.out).mono ?_
 rintro e w2 ⟨rfl,hb2⟩
 have HS2:=hdQ (HS1.out.step hb2)
 have HX2:=hdQ (HX1.out.step hb2)
 have HO2:=qh (Only w.heap.size (B::gOf NA) w w2) (HO1.out.sub (Only.of_below hb2 []) HO1.out.size (λx hx=>by cases hx))
 clear hb2
 go_wp2_with fail
 refine (HP1.out _ HS2.out).mono ?_
 rintro e w3 ⟨rfl,hb3⟩
 have HS3:=hdQ (HS2.out.step hb3)
 have HX3:=hdQ (HX2.out.step hb3)
 have HO3:=qh (Only w.heap.size (B::gOf NA) w w3) (HO2.out.sub (Only.of_below hb3 []) HO2.out.size (λx hx=>by cases hx))
 clear hb3
 obtain ⟨dB3,_,d13,_,_,d43,df3⟩:=HS3.out.cells
 obtain ⟨xz3,x03,x13,x23,x33⟩:=HX3.out.open4
 have hBx3:¬ w.heap.size=B:=qo
 go_wp2_with fail
 refine (HF1.out _ HS3.out).mono ?_
 rintro e w4 ⟨rfl,rfl⟩
 go_wp2_with fail
 go_ret
 exact ⟨0,_,_,_,_,rfl,(HS3.out.setBad _).1.drew,HOF.out,(HO3.out.setCell qs _).drew⟩
theorem S_prs {B base:Nat} {TA:Option Addr} {tc:Nat} {Ts:List Zaq} {AA:Option Addr} {ac:Nat} {as_:List Zaa} (hk:TokK Ts):∀ n,SPc B base TA tc Ts AA ac as_ n:=by
 intro n
 induction n using Nat.strongRecOn with
 | ind n ih =>
  refine ⟨λadd d a X NA nc ns w h ha hd hn=>S_l13Binary hk ih add w h ha hd hn,λd a X NA nc ns w h ha hd hn=>?_,λname d a X NA nc ns w h ha hd hn=>S_l13Call hk ih name w h ha hd hn⟩
  obtain ⟨m,rfl⟩:∃ m,n=m+1:=⟨n-1,qo⟩
  have im:=ih m qo
  by_cases h64:64<d
  ·exact S_fac0 hk im w h ha hd hn h64
  by_cases h45:pk Ts a=[45]
  ·exact S_facM hk im w h ha hd hn h64 h45
  by_cases h40:pk Ts a=[40]
  ·exact S_facP hk im w h ha hd hn h64 h40
  by_cases hk1:kd Ts a=1
  ·exact S_facN hk im w h ha hd hn h64 h45 h40 hk1
  by_cases hk2:kd Ts a=2
  ·by_cases hq:pk Ts (a+1)=[40]
   ·exact S_facC hk im w h ha hd hn h64 h45 h40 hk2 hq
   ·exact S_facV hk im w h ha hd hn h64 h45 h40 hk2 hq
  ·exact S_facX hk im w h ha hd hn h64 h45 h40 hk1 hk2
theorem tokz_off {src:List UInt8}:∀ (n a:Nat) (l r:List Zaq),(∀ x∈l,(0:Int)<=x.2.2.2)->tokz src n a l=.ok r->∀ x∈r,(0:Int)<=x.2.2.2 :=
 λn a l r hl h=>tokz_all (Pt:=λx=>(0:Int)<=x.2.2.2) (λa k m v _=>by show (0:Int)<=(a:Int);omega) n a l r hl h
theorem tokz_len {src:List UInt8}:∀ (n a:Nat) (l r:List Zaq),tokz src n a l=.ok r->l.length<=a->a<=src.length->r.length<=src.length:=by
 intro n
 induction n with
 | zero=>intro a l r h hl ha;injection h with h;subst h;omega
 | succ n ih =>
  intro a l r h hl ha
  rcases Nat.lt_or_ge a src.length with hlt|hge
  ·have hb:=List.getElem?_eq_getElem hlt
   cases hsp:isSp src[a] with
   | true=>rw [Zck hb hsp] at h;exact ih _ _ _ h qo qo
   | false =>
    cases hk:Zau (src.drop a) with
    | none=>rw [Zfw hb hsp hk] at h;cases h
    | some x =>
     obtain ⟨k,m,v⟩:=x
     rw [Zex hb hsp hk] at h
     have:=Zcf hk
     rw [List.length_drop] at this
     exact ih _ _ _ h (by simp;omega) qo
  ·rw [Zd0 hge] at h;injection h with h;subst h;omega
theorem toksF_k {src:List UInt8} {T:List Zaq} (h:toksF src=.ok T):TokK T/\T.length<=2001:=by
 have h0:=toksF_ok h
 unfold toksF at h
 split at h
 ·cases h
 ·rename_i hlen
  cases hz:tokz src (src.length+1) 0 [] with
  | error o=>rw [hz] at h;cases h
  | ok r =>
   rw [hz] at h
   have h2:r++[(0,[],0,(src.length:Int))]=T:=by injection h
   subst h2
   have h3:=tokz_off _ _ _ _ qs hz
   have h4:=tokz_len _ _ _ _ hz qs (Nat.zero_le _)
   refine ⟨⟨h0,λi=>?_,by simp;omega⟩,by simp;omega⟩
   unfold of_ tk
   rcases Nat.lt_or_ge i (r++[((0:Int),([]:List UInt8),(0:Int),(src.length:Int))]).length with hi|hi
   ·have hm:=List.getElem_mem hi
    rw [List.getD_eq_getElem?_getD,List.getElem?_eq_getElem hi]
    rcases List.mem_append.1 hm with hm|hm
    ·exact h3 _ hm
    ·rw [List.mem_singleton.1 hm];show (0:Int)<=_;simp
   ·rw [List.getD_eq_getElem?_getD,List.getElem?_eq_none hi];exact Int.le_refl _
theorem parF_bad {src:List UInt8} {o:Nat} (h:toksF src=.error o):parF src=(([],[]),(o:Int)):=by unfold parF;rw [h]
theorem parF_ok {src:List UInt8} {T:List Zaq} (h:toksF src=.ok T):parF src=parT T:=by unfold parF;rw [h]
theorem parT_yes {T:List Zaq} {p:Zae} (h:asg T (Zc6 T) (T.length+1) 0 [] []=some (.ok p)):parT T=(p, -1):=by unfold parT;rw [h]
theorem parT_no {T:List Zaq} {o:Int} (h:asg T (Zc6 T) (T.length+1) 0 [] []=some (.error o)):parT T=(([],[]),o):=by unfold parT;rw [h]
theorem asg_end {T:List Zaq} {N n a:Nat} {ns:List Zac} {l:List Zaa} (h:kd T a=0):asg T N (n+1) a ns l=some (.ok (ns,l)):=by rw [asg,if_pos h]
theorem asg_kind {T:List Zaq} {N n a:Nat} {ns:List Zac} {l:List Zaa} (h:kd T a≠0) (h2:kd T a≠2):asg T N (n+1) a ns l=some (.error (of_ T a)):=by rw [asg,if_neg h,if_pos h2]
theorem asg_eq {T:List Zaq} {N n a:Nat} {ns:List Zac} {l:List Zaa} (h:kd T a=2) (h2:pk T (a+1)≠[61]):asg T N (n+1) a ns l=some (.error (of_ T (a+1))):=by rw [asg,if_neg (by rw [h];decide),if_neg (λq=>q h),if_pos h2]
theorem asg_bad {T:List Zaq} {N n a:Nat} {ns:List Zac} {l:List Zaa} {o:Int} (h:kd T a=2) (h2:pk T (a+1)=[61]) (hr:prs T N (.bin true) 1 (a+2) ns=.bad o):asg T N (n+1) a ns l=some (.error o):=by rw [asg,if_neg (by rw [h];decide),if_neg (λq=>q h),if_neg (λq=>q h2),hr]
theorem asg_semi {T:List Zaq} {N n a a1:Nat} {ns n1:List Zac} {l:List Zaa} {v:Int} (h:kd T a=2) (h2:pk T (a+1)=[61]) (hr:prs T N (.bin true) 1 (a+2) ns=.ok v a1 n1) (hp:pk T a1≠[59]):asg T N (n+1) a ns l=some (.error (of_ T a1)):=by rw [asg,if_neg (by rw [h];decide),if_neg (λq=>q h),if_neg (λq=>q h2),hr];simp only [if_neg hp]
theorem asg_next {T:List Zaq} {N n a a1:Nat} {ns n1:List Zac} {l:List Zaa} {v:Int} (h:kd T a=2) (h2:pk T (a+1)=[61]) (hr:prs T N (.bin true) 1 (a+2) ns=.ok v a1 n1) (hp:pk T a1=[59]):asg T N (n+1) a ns l=asg T N n (a1+1) n1 (l++[(tx T a,v)]):=by rw [asg,if_neg (by rw [h];decide),if_neg (λq=>q h),if_neg (λq=>q h2),hr];simp only [if_pos hp]
theorem Zcp {w u v:World} {G:List Nat} (h:Below w.heap.size w u) (k:Only u.heap.size G u v) (hG:∀ x,x∈G->w.heap.size<=x):Below w.heap.size w v :=
 ⟨k.os.trans h.os,k.tape.trans h.tape,k.output.trans h.output,Nat.le_trans h.size k.size,λb hb=>(k.block b (Nat.lt_of_lt_of_le hb h.size) (λq=>by have:=hG b q;omega)).trans (h.block b hb)⟩
def AsgInv (B base:Nat) (TA:Option Addr) (tc:Nat) (Ts:List Zaq) (R:Except Int Zae) (w:World) (k:Nat) (wr:World):Prop :=
 ∃ (AA:Option Addr) (ac:Nat) (as_:List Zaa) (a:Nat) (NA:Option Addr) (nc:Nat) (ns:List Zac) (f:Nat),Za4 wr B base TA tc Ts AA ac as_ (List.range base) a NA nc ns (-1)/\a<Ts.length/\f<=k/\Ts.length-a<f/\asg Ts (Zc6 Ts) f a ns as_=some R/\as_.length<=a /\
  Own wr w.heap.size 62 [.slice none 0 0,.slice none 0 0]/\Below w.heap.size w wr
set_option maxHeartbeats 16000000 in
theorem S_Parse {src:List UInt8} (w:World) (hs:src.length<=1048576) :
  Calls Tryz.prog 21 #[str src] w (Zbr src w):=by
 have HTK:=qh (∀ wx,Calls Tryz.prog 59 #[str src] wx (Zcb src 101 wx)) (λwx=>S_Tokenize wx hs)
 cases ht:toksF src with
 | error o =>
  have HF:=hdQ (parF_bad ht)
  have HT2:=qh (∀ wx,CB_ Tryz.prog 59 #[str src] wx (.tuple #[.slice none 0 0,.int .i64 o])) (λwx=>(HTK.out wx).mono (λe w' h=>by unfold Zcb at h;rw [ht] at h;exact h))
  clear HTK ht
  go_enter Tryz.func21,Tryz.ntmps21
  go_wp2_with fail
  refine (HT2.out _).mono ?_
  rintro e w1 ⟨rfl,hb1⟩
  have hz1:=hb1.size
  (try simp at hz1)
  have HB1:=bh w hb1
  have HO1:=qh (Own w1 w.heap.size 62 [.slice none 0 0,.slice none 0 0]) (Own.step hb1 (Own.new w 62 #[_,_]))
  have c0:=HO1.out.cell 0
  have c1:=HO1.out.cell 1
  have cf:=HO1.out.frozen
  (try dsimp only [List.getElem?_cons_succ,List.getElem?_cons_zero] at c0 c1)
  clear hb1
  go_wp2_with fail
  exact bodyPost_ret (v:=.tuple #[.agg #[.slice none 0 0,.slice none 0 0],.int .i64 o]) (by simp [results,Tryz.results21,go_sem, *]) rfl (Zbr.mk_ HF.out rfl rfl (Zbm.nil _ _) bll)
 | ok Ts =>
  have HPF:=hdQ (parF_ok ht)
  obtain ⟨hk,hl2⟩:=toksF_k ht
  obtain ⟨R,hR⟩:=asg_ends hk.ok (N:=Zc6 Ts) (Nat.le_refl _) (Ts.length+1) 0 [] [] hk.ok.pos qo
  have HR:=hdQ hR
  have HT2:=qh (∀ wx,Calls Tryz.prog 59 #[str src] wx λe w'=>∃ g c,e=.returned (.tuple #[.slice (some ⟨g,0,none⟩) Ts.length c,.int .i64 (-1)])/\Zah w' wx.heap.size 101 4 (some ⟨g,0,none⟩) Ts.length c (rTok Ts)/\Below wx.heap.size wx w') (λwx=>(HTK.out wx).mono (λe w' h=>by
   unfold Zcb at h
   rw [ht] at h
   obtain ⟨A,c,rfl,hg,hb⟩:=h
   rcases hg.shape with ⟨_,h0,_⟩|⟨g,cur,rfl,_⟩
   ·have:=hk.ok.pos;omega
   ·exact ⟨g,c,rfl,hg,hb⟩))
  clear HTK ht hR
  go_enter Tryz.func21,Tryz.ntmps21
  go_wp2_with fail
  refine (HT2.out _).mono ?_
  rintro e w1 ⟨g,tc,rfl,hg1,hb1⟩
  have hz1:=hb1.size
  rw [World.size_alloc] at hg1
  (try simp at hz1)
  have HB1:=bh w hb1
  have HX1:=qh (Own w1 w.heap.size 62 [.slice none 0 0,.slice none 0 0]) (Own.step hb1 (Own.new w 62 #[_,_]))
  have HG1:=hdQ hg1
  clear hb1 hg1
  have HIV:=qh (AsgInv w1.heap.size (w.heap.size+1) (some ⟨g,0,none⟩) tc Ts R w (Ts.length+1) (w1.alloc (.cells #[.slice (some ⟨g,0,none⟩) Ts.length tc,.int .i64 0,.slice none 0 0,.slice none 0 0,.int .i64 (-1)] 99))) ⟨none,0,[],0,none,0,[],Ts.length+1,⟨Own.new w1 99 #[_,_,_,_,_],⟨(HG1.out.alloc _).rs,Zah.nil _ _ _ _,⟨[],Zah.nil _ _ _ _,Zb4.nil _ _ _,Zfv.nil _⟩,λx hx=>⟨by have:=HG1.out.lt x hx;omega,by simp [gOf],by simp [gOf],by have:=HG1.out.ge x hx;simp;omega⟩,λx hx=>by simp [gOf] at hx,λx hx=>by simp [gOf] at hx,by simp;omega,qs,λx hx=>by have:=HG1.out.lt x hx;simp;omega,λx hx=>by simp at hx ⊢;omega,qs⟩⟩,hk.ok.pos,Nat.le_refl _,qo,HR.out,qs,HX1.out.alloc _,bll⟩
  have HK:=hdQ hk
  clear hk
  go_wp2_with fail
  generalize hBd:w1.heap.size=B at *
  have hwB:w.heap.size+1<=B:=hz1
  clear hBd
  go_loopg [7,8] (Ts.length+1) (λgg _ _ wr=>AsgInv B (w.heap.size+1) (some ⟨g,0,none⟩) tc Ts R w gg wr)
  case atStart=>exact HIV.out
  case round =>
   obtain ⟨AA,ac,as_,a,NA,nc,ns,f,hst,ha,hf1,hf2,hR,hal,hbx,hbl⟩:=hrel
   obtain ⟨wo,rfl⟩:=qe wr
   obtain ⟨f',rfl⟩:∃ f',f=f'+1:=⟨f-1,qo⟩
   obtain ⟨hB,c0,c1,_,_,c4,cf⟩:=hst.cells
   obtain ⟨ht1,ht2,b,o,hTA,hb,hbB,t0,t1,t2,t3⟩:=hst.2.tokAt ha
   simp only [Option.some.injEq,Addr.mk.injEq,and_true] at hTA
   obtain ⟨rfl,rfl⟩:=hTA
   rw [Nat.zero_add] at t0 t1 t2 t3
   unfold maxLen at ht2
   have ha':(a:Int)<Ts.length:=qo
   have hbz:=hbl.size
   have hbP:=hbx.lt
   have HS:=hdQ hst
   have HX:=hdQ hbx
   have HB:=hdQ hbl
   have HRA:=hdQ hR
   have hw1:w.heap.size≠B:=qo
   have hwB':=hwB
   have HPB:=qh (w.heap.size≠B) hw1
   have hlen:=HK.out.len
   clear hst hbx hbl HIV hR hw1
   obtain ⟨k,hk⟩:=qv (kd Ts a)
   have HKD:=hdQ hk
   obtain ⟨x,hx⟩:=qv (tx Ts a)
   obtain ⟨m,hm⟩:=qv (nm Ts a)
   obtain ⟨q,hq⟩:=qv (of_ Ts a)
   rw [hk] at t0
   rw [hx] at t1
   rw [hm] at t2
   rw [hq] at t3
   have HXE:=hdQ hx
   have HME:=hdQ hm
   have HQE:=hdQ hq
   clear hk hx hm hq
   by_cases k0:k=0
   ·subst k0
    have hRR:R=.ok (ns,as_):=by
     have:=HRA.out
     rw [asg_end HKD.out] at this
     injection this with this
     exact this.symm
    have HF:=qh (parF src=((ns,as_), -1)) (by rw [HPF.out];exact parT_yes (by rw [HR.out,hRR]))
    have hasl:as_.length<=1048576:=qo
    clear hRR HRA
    have hPB:=HPB.out
    have hBP:¬ B=w.heap.size:=λe=>HPB.out e.symm
    go_wp2_with fail
    go_quiet (fail)
    have HSq:=qh (Za4 (wo.drewN nq) B (w.heap.size+1) (some ⟨g,0,none⟩) tc Ts AA ac as_ (List.range (w.heap.size+1)) a NA nc ns (-1)) (HS.out.drewN nq)
    have HXq:=qh (Own (wo.drewN nq) w.heap.size 62 [.slice none 0 0,.slice none 0 0]) (HX.out.drewN nq)
    have HBq:=qh (Below w.heap.size w (wo.drewN nq)) (Zb6 HB.out nq)
    clear HS HX HB c0 c1 c4 cf t0 t1 t2 t3 hB hb hbP hbz
    generalize wo.drewN nq=wq at *
    obtain ⟨hB,c0,c1,c2,c3,c4,cf⟩:=HSq.out.cells
    have y0:=HXq.out.cell 0
    have y1:=HXq.out.cell 1
    have yf:=HXq.out.frozen
    have yz:=HXq.out.lt
    have yB:=HBq.out.size
    (try dsimp only [List.getElem?_cons_succ,List.getElem?_cons_zero] at y0 y1)
    have HFN:=hdQ (Own.set_ (Own.set_ HXq.out 0 (.slice NA ns.length nc)) 1 (.slice AA as_.length ac))
    go_wp2_with fail
    have z0:=HFN.out.cell 0
    have z1:=HFN.out.cell 1
    simp only [List.set_cons_zero,List.set_cons_succ,List.getElem?_cons_succ,List.getElem?_cons_zero] at z0 z1
    refine bodyPost_ret (v:=.tuple #[.agg #[.slice NA ns.length nc,.slice AA as_.length ac],.int .i64 (-1)]) (by simp [results,Tryz.results21,go_sem,z0,z1]) rfl (Zbr.mk_ HF.out rfl rfl (Zbm.mono (PMem.progM (base:=w.heap.size+1) (B:=B) (TA:=some ⟨g,0,none⟩) (tc:=tc) (T:=Ts) ?_ hasl) qo) bll)
    refine HSq.out.2.keepX qs (λz h1 h2 h3=>?_)
    have hz:z≠w.heap.size:=λe=>h2 (by rw [e];simp)
    rw [Below.heap_setCell _ _ _ _ (by exact hz),Below.heap_setCell _ _ _ _ (by exact hz)]
   ·have e0:(k != 0)=true:=by simpa using k0
    have e00:(k==0)=false:=by simpa using k0
    have HK0:=hdQ k0
    clear k0
    have hin:=kd_in HK.out.ok ha (by rw [HKD.out];exact HK0.out)
    go_wp2_with fail
    go_quiet (fail)
    go_wp2_with fail
    have HSq:=qh (Za4 (wo.drewN nq) B (w.heap.size+1) (some ⟨g,0,none⟩) tc Ts AA ac as_ (List.range (w.heap.size+1)) a NA nc ns (-1)) (HS.out.drewN nq)
    have HXq:=qh (Own (wo.drewN nq) w.heap.size 62 [.slice none 0 0,.slice none 0 0]) (HX.out.drewN nq)
    have HBq:=qh (Below w.heap.size w (wo.drewN nq)) (Zb6 HB.out nq)
    clear HS HX HB c0 c1 c4 cf t0 t1 t2 t3 hB hb hbP hbz
    generalize wo.drewN nq=wq at *
    have HS:=HSq
    have HX:=HXq
    have HB:=HBq
    clear HSq HXq HBq
    obtain ⟨wo,rfl⟩:=qe wq
    obtain ⟨hB,c0,c1,_,_,c4,cf⟩:=HS.out.cells
    obtain ⟨_,_,b,o,hTA,hb,_,t0,t1,t2,t3⟩:=HS.out.2.tokAt ha
    simp only [Option.some.injEq,Addr.mk.injEq,and_true] at hTA
    obtain ⟨rfl,rfl⟩:=hTA
    rw [Nat.zero_add,HKD.out] at t0
    rw [Nat.zero_add,HXE.out] at t1
    rw [Nat.zero_add,HME.out] at t2
    rw [Nat.zero_add,HQE.out] at t3
    have hbz:=HB.out.size
    have hbP:=HX.out.lt
    go_region_held3 (λw'=>w'.cell? ⟨B,0,none⟩=some (.slice (some ⟨g,0,none⟩) Ts.length tc)/\w'.cell? ⟨B,1,none⟩=some (.int .i64 a)/\w'.cell? ⟨g,a*4,none⟩=some (.int .i64 k)/\w'.cell? ⟨g,a*4+1,none⟩=some (str x)/\w'.cell? ⟨g,a*4+2,none⟩=some (.int .i64 m)/\w'.cell? ⟨g,a*4+3,none⟩=some (.int .i64 q))
     (first|((try dsimp only);refine ⟨?_, ?_, ?_, ?_, ?_, ?_⟩<;>(go_simp;done))|go_keep)
     (fail)
    have hBw:=HPB.out
    have hB1:w.heap.size+1<=B:=hwB
    have HAB:=qh (∀ y,y∈B::gOf NA->w.heap.size+1<=y/\y<wo.heap.size) (λy hy=>by
     rcases List.mem_cons.1 hy with rfl|hy
     ·exact ⟨hB1,hB⟩
     ·obtain ⟨cs,hg,_⟩:=HS.out.2.nod
      exact ⟨by have:=(HS.out.2.apN y hy).2.2;simp at this;omega,hg.lt y hy⟩)
    have HAT:=qh (wo.heap.size∉gOf AA) (λq=>by have:=HS.out.2.ass.lt _ q;omega)
    have HS1:=qh (Za4 (World.drew (wo.alloc (.cells #[.int .i64 k,str x,.int .i64 m,.int .i64 q] 101))) B (w.heap.size+1) (some ⟨g,0,none⟩) tc Ts AA ac as_ (List.range (w.heap.size+1)) a NA nc ns (-1)) (Za4.drew (Za4.alloc HS.out _))
    have HT1:=qh (Box (World.drew (wo.alloc (.cells #[.int .i64 k,str x,.int .i64 m,.int .i64 q] 101))) wo.heap.size [.int .i64 k,str x,.int .i64 m,.int .i64 q]) (Box.of_own (Own.drew (Own.new wo 101 #[.int .i64 k,str x,.int .i64 m,.int .i64 q])))
    have HX1':Hid (Own (World.drew (wo.alloc (.cells #[.int .i64 k,str x,.int .i64 m,.int .i64 q] 101))) w.heap.size 62 [.slice none 0 0,.slice none 0 0]):=hdQ (Own.drew (HX.out.alloc _))
    have HB1':Hid (Below w.heap.size w (World.drew (wo.alloc (.cells #[.int .i64 k,str x,.int .i64 m,.int .i64 q] 101)))):=hdQ bll
    have hu1z:wo.heap.size+1=(World.drew (wo.alloc (.cells #[.int .i64 k,str x,.int .i64 m,.int .i64 q] 101))).heap.size:=by simp [World.drew]
    generalize World.drew (wo.alloc (.cells #[.int .i64 k,str x,.int .i64 m,.int .i64 q] 101))=u1 at *
    obtain ⟨tz,x0,x1,x2,x3⟩:=HT1.out.open4
    have hq0:(0:Int)<=q:=by have:=HK.out.off a;rw [HQE.out] at this;exact this
    have HFL:=hdQ (Zci u1 HS1.out ha)
    rw [HQE.out] at HFL
    clear t0 t1 t2 t3 c0 c1 c4 cf
    by_cases k2:k=2
    ·subst k2
     obtain ⟨dB,_,d1,_,_,d4,df⟩:=HS1.out.cells
     have hTB:¬ wo.heap.size=B:=qo
     have hSA:Za4 (u1.setCell ⟨B,1,none⟩ (.int .i64 ((a:Int)+1))) B (w.heap.size+1) (some ⟨g,0,none⟩) tc Ts AA ac as_ (List.range (w.heap.size+1)) (a+1) NA nc ns (-1):=by have:=HS1.out.setAt (a+1);simpa using this
     have hOA:Only u1.heap.size [B] u1 (u1.setCell ⟨B,1,none⟩ (.int .i64 ((a:Int)+1))):=(Only.refl _ _ _).setCell qs _
     have HXP:=hdQ (Zgd [61] _ hSA hin hlen)
     have HSA:=hdQ hSA
     have HOA:=hdQ hOA
     clear hSA hOA
     by_cases h61:pk Ts (a+1)=[61]
     ·rw [h61] at HXP
      have HXP1:Hid (Calls Tryz.prog 61 #[.pointer (some ⟨B,0,none⟩),.string ⟨#[61]⟩] (u1.setCell ⟨B,1,none⟩ (.int .i64 ((a:Int)+1))) (PExp B (w.heap.size+1) (some ⟨g,0,none⟩) tc Ts AA ac as_ (List.range (w.heap.size+1)) (a+1) NA nc ns true (u1.setCell ⟨B,1,none⟩ (.int .i64 ((a:Int)+1))))):=hdQ HXP.out
      clear HXP
      have hin2:=Zc9 HK.out.ok hin (by rw [h61];simp)
      have hE:=Zbq HK.out.ok (Zc6 Ts) (.bin true) 1 (a+2) ns hin2 (by unfold Zc6;show 3+_<=_;omega)
      have HEX:=qh (∀ wx,Za4 wx B (w.heap.size+1) (some ⟨g,0,none⟩) tc Ts AA ac as_ (List.range (w.heap.size+1)) (a+2) NA nc ns (-1)->Calls Tryz.prog 62 #[.pointer (some ⟨B,0,none⟩),.int .i64 1] wx (PGo B (w.heap.size+1) (some ⟨g,0,none⟩) tc Ts AA ac as_ (List.range (w.heap.size+1)) NA (prs Ts (Zc6 Ts) (.bin true) 1 (a+2) ns) wx)) (λwx hx=>by have:=Zev (S_prs HK.out (Zc6 Ts)) (d:=1) wx hx hin2 qo (by unfold Zc6;omega);simpa using this)
      go_wp2_with fail
      refine HXP1.out.mono ?_
      rintro e u2 ⟨rfl,hO2,hs2,_⟩
      have HS2:=hdQ (hs2 rfl)
      have hO12:Only u1.heap.size [B] u1 u2:=HOA.out.sub hO2 qs (λy hy=>.inl hy)
      have HX2:=hdQ (hO12.own HX1'.out qo (by simp;exact HPB.out))
      have HT2':=hdQ (Box.only hO12 HT1.out tz (by simp;exact hTB))
      have HB2:=hdQ (Zcp HB1'.out hO12 (λy hy=>by simp at hy;omega))
      have hz12:=hO12.size
      clear hO2 hs2 hO12 x0 x1 x2 x3 d1 d4 df
      cases hr:prs Ts (Zc6 Ts) (.bin true) 1 (a+2) ns with
      | out=>exact absurd hr hE.1
      | bad o =>
       rw [hr] at HEX
       have hRR:R=.error o:=by
        have:=HRA.out
        rw [asg_bad HKD.out h61 hr] at this
        injection this with this
        exact this.symm
       have HF:=qh (parF src=(([],[]),o)) (by rw [HPF.out];exact parT_no (by rw [HR.out,hRR]))
       clear hRR HRA hr h61 hE
       go_wp2_with fail
       refine (HEX.out _ HS2.out).mono ?_
       rintro e u3 ⟨r,b0,b1,b2,b3,rfl,hw3,ho,hO3⟩
       have HW3:=hdQ hw3
       have HX3:=hdQ (hO3.own HX2.out qo (λhy=>by have:=HAB.out _ hy;omega))
       have HB3:=hdQ (Zcp HB2.out hO3 (λy hy=>by have:=HAB.out y hy;omega))
       clear hw3 hO3
       have zB:=HW3.out.lt
       have zP:=HX3.out.lt
       have g4:=HW3.out.cell 4
       have y0:=HX3.out.cell 0
       have y1:=HX3.out.cell 1
       have yf:=HX3.out.frozen
       (try dsimp only [List.getElem?_cons_succ,List.getElem?_cons_zero] at g4 y0 y1)
       have hPB:¬ w.heap.size=B:=qo
       have hBP:¬ B=w.heap.size:=qo
       go_wp2_with fail
       go_region_held3 (λw'=>w'.cell? ⟨B,4,none⟩=some (.int .i64 (o)))
        (first|((try dsimp only);(go_simp;done))|go_keep)
        (fail)
       all_goals
        go_wp2_with fail
        exact bodyPost_ret (v:=.tuple #[.agg #[.slice none 0 0,.slice none 0 0],.int .i64 (o)]) (by simp [results,Tryz.results21,go_sem, *]) rfl (Zbr.mk_ HF.out rfl rfl (Zbm.nil _ _) bll)
      | ok v a1 n1 =>
       rw [hr] at HEX
       have h6:a+2+1<=a1/\a1<Ts.length:=hE.2 v a1 n1 hr
       go_wp2_with fail
       refine (HEX.out _ HS2.out).mono ?_
       rintro e u3 ⟨NA3,nc3,rfl,hs3,hO3,hS3⟩
       have HS3:=hdQ hs3
       have HX3:=hdQ (hO3.own HX2.out qo (λhy=>by have:=HAB.out _ hy;omega))
       have HT3:=hdQ (Box.only hO3 HT2'.out qo (λhy=>by have:=HAB.out _ hy;omega))
       have HB3:=hdQ (Zcp HB2.out hO3 (λy hy=>by have:=HAB.out y hy;omega))
       have HXP3:=hdQ (Zgd [59] u3 hs3 h6.2 hlen)
       have g4':=hs3.cells.2.2.2.2.2.1
       have hz23:=hO3.size
       clear hs3 hO3 hE
       by_cases h59:pk Ts a1=[59]
       ·rw [h59] at HXP3
        have HXP4:=qh (Calls Tryz.prog 61 #[.pointer (some ⟨B,0,none⟩),.string ⟨#[59]⟩] u3 (PExp B (w.heap.size+1) (some ⟨g,0,none⟩) tc Ts AA ac as_ (List.range (w.heap.size+1)) a1 NA3 nc3 n1 true u3)) HXP3.out
        have hin4:=Zc9 HK.out.ok h6.2 (by rw [h59];simp)
        have hRN:asg Ts (Zc6 Ts) f' (a1+1) n1 (as_++[(x,v)])=some R:=by
         have:=HRA.out
         rw [asg_next HKD.out h61 hr h59,HXE.out] at this
         exact this
        have HRN:=hdQ hRN
        clear hRN HRA hr h61 h59 HXP3
        go_wp2_with fail
        refine HXP4.out.mono ?_
        rintro e u4 ⟨rfl,hO4,hs4,_⟩
        have HS4:=hdQ (hs4 rfl)
        have HX4:=hdQ (hO4.own HX3.out qo (by simp;exact HPB.out))
        have HT4:=hdQ (Box.only hO4 HT3.out qo (by simp;exact hTB))
        have HB4:=hdQ (Zcp HB3.out hO4 (λy hy=>by simp at hy;omega))
        have hz34:=hO4.size
        clear hs4 hO4 g4'
        obtain ⟨zB,_,_,_,d3,_,df⟩:=HS4.out.cells
        obtain ⟨tz4,_,x1,_,_⟩:=HT4.out.open4
        have hBT:¬ B=wo.heap.size:=λe=>hTB e.symm
        have hasl:as_.length<=2001:=qo
        have hlow:=HS4.out.2.low
        have HGA:=hdQ HS4.out.2.ass
        go_wp2_with fail
        refine Zcw (S:=(λw'=>w'.cell? ⟨B,3,none⟩=some (.slice AA as_.length ac)/\w'.frozen? ⟨B,3,none⟩=false/\w'.cell? ⟨wo.heap.size,1,none⟩=some (str x))) 15 kr (by (try dsimp only);refine ⟨?_, ?_, ?_⟩<;>(go_simp;done)) (λhHeld=>?_)
        refine tkM 0 ?_
        refine tkM 1 ?_
        refine tkM 2 ?_
        refine tkM 3 ?_
        refine tkM 4 ?_
        refine tkM 5 ?_
        refine tkM 6 ?_
        refine tkM 7 ?_
        refine tkM 8 ?_
        refine tkM 9 ?_
        refine Zag (i:=10) rfl kr (λK10 hK10=>?_)
        go_simp
        refine hK10.out _ _ (λ_=>by (try dsimp only);refine ⟨?_, ?_, ?_⟩<;>(go_simp;done)) (λhHeld10=>?_)
        have hX10:=hHeld10 qd
        refine Zag (i:=11) rfl kr (λK11 hK11=>?_)
        (refine Zea qr _ _ 60 qr (w.heap.size+1) 106 (.agg #[.string ByteArray.empty,.int .i64 0]) 2 24 Tryz.underlying60 T.infoAss rfl qd (xs:=rAss as_) qr ?_ (ys:=rAss [(x,v)]) qr ?_ (rAss_one _) ?_ ?_ ?_ ?_;(exact (gwx HGA.out));(exact (ltt 1));(unfold maxLen;omega);(omega);(first|omega|(simp<;>omega));rintro A' c' w2 gA)
        have hsa:=gA.2.2.2.1
        (try simp at hsa)
        have hem:=PMem.assign HS4.out.2 bll gA
        have hAA:=HS4.out.2.ass.lt
        have hAX:=HS4.out.2.apA
        have ho2:Own w2 B 99 [.slice (some ⟨g,0,none⟩) Ts.length tc,.int .i64 ((a1+1:Nat):Int),.slice NA3 n1.length nc3,.slice AA as_.length ac,.int .i64 (-1)]:=hem.2.1.own HS4.out.1 zB (λhN=>(hAX B hN).1 rfl)
        have hx2:Own w2 w.heap.size 62 [.slice none 0 0,.slice none 0 0]:=hem.2.1.own HX4.out HX4.out.lt (λhN=>by have:=(hAX _ hN).2;simp at this)
        have hb2:Below w.heap.size w w2:=Zcp HB4.out hem.2.1 (λy hy=>by have:=(hAX y hy).2;simp at this;omega)
        have hA4:wo.heap.size∉gOf AA:=HAT.out
        have ht2':Box w2 wo.heap.size [.int .i64 2,str x,.int .i64 m,.int .i64 q]:=Box.only hem.2.1 HT4.out tz4 hA4
        have HO2:=hdQ ho2
        have HX5:=hdQ hx2
        have HB5:=hdQ hb2
        have HT5:=hdQ ht2'
        have HE2:=hdQ hem.1
        have k3:=ho2.cell 3
        have kf:=ho2.frozen 3
        have kx:=ht2'.open4.2.2.1
        have kB:=ho2.lt
        (try dsimp only [List.getElem?_cons_succ,List.getElem?_cons_zero] at k3)
        clear gA hem ho2 hx2 hb2 ht2' hAA hAX
        refine hK11.out _ _ (λ_=>by (try dsimp only);refine ⟨?_, ?_, ?_⟩<;>(go_simp;done)) (λhHeld11=>?_)
        have hX11:=hHeld11 qd
        refine Zag (i:=12) rfl kr (λK12 hK12=>?_)
        go_simp
        refine hK12.out _ _ (λ_=>hX11) (λhHeld12=>?_)
        have hX12:=hHeld12 qd
        refine Zag (i:=13) rfl kr (λK13 hK13=>?_)
        go_simp
        refine hK13.out _ _ (λ_=>hX12) (λhHeld13=>?_)
        have hX13:=hHeld13 qd
        refine Zag (i:=14) rfl kr (λK14 hK14=>?_)
        go_simp
        refine hK14.out _ _ (λ_=>hX13) (λhHeld14=>?_)
        have hX14:=hHeld14 qd
        refine Zag (i:=15) rfl kr (λK15 hK15=>?_)
        go_simp
        refine hK15.out _ _ (λh=>absurd rfl h) (λhHeld15=>?_)
        refine Zcx kr ?_ _
        have hst:Za4 (w2.setCell ⟨B,3,none⟩ (.slice A' (as_.length+1) c')) B (w.heap.size+1) (some ⟨g,0,none⟩) tc Ts A' c' (as_++[(x,v)]) (List.range (w.heap.size+1)) (a1+1) NA3 nc3 n1 (-1):=⟨by have:=HO2.out.set_ 3 (.slice A' (as_.length+1) c');simpa using this,HE2.out.set_ 3 _⟩
        have HSF:=hdQ hst
        have HXF:=qh (Own (w2.setCell ⟨B,3,none⟩ (.slice A' (as_.length+1) c')) w.heap.size 62 [.slice none 0 0,.slice none 0 0]) (HX5.out.far (by simp;exact HPB.out) _)
        have HBF:=qh (Below w.heap.size w (w2.setCell ⟨B,3,none⟩ (.slice A' (as_.length+1) c'))) (Below.setCell HB5.out (by simp;omega) _)
        generalize w2.setCell ⟨B,3,none⟩ (.slice A' (as_.length+1) c')=w3 at *
        clear hst hX10 hX11 hX12 hX13 hX14 hHeld k3 kf kx
        go_wp2_with fail
        go_roundg (gk-1)
        case measure=>omega
        case rel=>exact ⟨A',c',as_++[(x,v)],a1+1,NA3,nc3,n1,f',HSF.out,hin4,qo,qo,HRN.out,by simp;omega,HXF.out,HBF.out⟩
       ·have hdf:decide (pk Ts a1=[59])=false:=by simp [h59]
        rw [hdf] at HXP3
        have HXP4:=qh (Calls Tryz.prog 61 #[.pointer (some ⟨B,0,none⟩),.string ⟨#[59]⟩] u3 (PExp B (w.heap.size+1) (some ⟨g,0,none⟩) tc Ts AA ac as_ (List.range (w.heap.size+1)) a1 NA3 nc3 n1 false u3)) HXP3.out
        have hRR:R=.error (of_ Ts a1):=by
         have:=HRA.out
         rw [asg_semi HKD.out h61 hr h59] at this
         injection this with this
         exact this.symm
        have HF:=qh (parF src=(([],[]),of_ Ts a1)) (by rw [HPF.out];exact parT_no (by rw [HR.out,hRR]))
        obtain ⟨o,hoe,ho⟩:∃ o,of_ Ts a1=o/\0<=o:=⟨_,rfl,HK.out.off a1⟩
        rw [hoe] at HF
        clear hRR HRA hr h61 h59 hdf HXP3
        have HOE:=hdQ hoe
        clear hoe
        go_wp2_with fail
        refine HXP4.out.mono ?_
        rintro e u4 ⟨rfl,hO4,_,hs4⟩
        obtain ⟨b0,b1,b2,b3,hw4⟩:=hs4 rfl
        rw [HOE.out] at hw4
        have HW4:=hdQ hw4
        have HX4:=hdQ (hO4.own HX3.out qo (by simp;exact HPB.out))
        have HB4:=hdQ (Zcp HB3.out hO4 (λy hy=>by simp at hy;omega))
        clear hw4 hs4 hO4 g4'
        have zB:=HW4.out.lt
        have zP:=HX4.out.lt
        have g4:=HW4.out.cell 4
        have y0:=HX4.out.cell 0
        have y1:=HX4.out.cell 1
        have yf:=HX4.out.frozen
        (try dsimp only [List.getElem?_cons_succ,List.getElem?_cons_zero] at g4 y0 y1)
        have hPB:¬ w.heap.size=B:=qo
        have hBP:¬ B=w.heap.size:=qo
        go_wp2_with fail
        go_region_held3 (λw'=>w'.cell? ⟨B,4,none⟩=some (.int .i64 (o)))
         (first|((try dsimp only);(go_simp;done))|go_keep)
         (fail)
        all_goals
         go_wp2_with fail
         exact bodyPost_ret (v:=.tuple #[.agg #[.slice none 0 0,.slice none 0 0],.int .i64 (o)]) (by simp [results,Tryz.results21,go_sem, *]) rfl (Zbr.mk_ HF.out rfl rfl (Zbm.nil _ _) bll)
     ·have hdf:decide (pk Ts (a+1)=[61])=false:=by simp [h61]
      rw [hdf] at HXP
      have HXP1:Hid (Calls Tryz.prog 61 #[.pointer (some ⟨B,0,none⟩),.string ⟨#[61]⟩] (u1.setCell ⟨B,1,none⟩ (.int .i64 ((a:Int)+1))) (PExp B (w.heap.size+1) (some ⟨g,0,none⟩) tc Ts AA ac as_ (List.range (w.heap.size+1)) (a+1) NA nc ns false (u1.setCell ⟨B,1,none⟩ (.int .i64 ((a:Int)+1))))):=hdQ HXP.out
      have hRR:R=.error (of_ Ts (a+1)):=by
       have:=HRA.out
       rw [asg_eq HKD.out h61] at this
       injection this with this
       exact this.symm
      have HF:=qh (parF src=(([],[]),of_ Ts (a+1))) (by rw [HPF.out];exact parT_no (by rw [HR.out,hRR]))
      obtain ⟨o,hoe,ho⟩:∃ o,of_ Ts (a+1)=o/\0<=o:=⟨_,rfl,HK.out.off (a+1)⟩
      rw [hoe] at HF
      clear hRR HRA h61 hdf HXP
      have HOE:=hdQ hoe
      clear hoe
      go_wp2_with fail
      refine HXP1.out.mono ?_
      rintro e u2 ⟨rfl,hO2,_,hs2⟩
      obtain ⟨b0,b1,b2,b3,hw2⟩:=hs2 rfl
      rw [HOE.out] at hw2
      have hO12:Only u1.heap.size [B] u1 u2:=HOA.out.sub hO2 qs (λy hy=>.inl hy)
      have HW2:=hdQ hw2
      have HX2:=hdQ (hO12.own HX1'.out qo (by simp;exact HPB.out))
      have HB2:=hdQ (Zcp HB1'.out hO12 (λy hy=>by simp at hy;omega))
      clear hO2 hs2 hO12 hw2 x0 x1 x2 x3 d1 d4 df
      have zB:=HW2.out.lt
      have zP:=HX2.out.lt
      have g4:=HW2.out.cell 4
      have y0:=HX2.out.cell 0
      have y1:=HX2.out.cell 1
      have yf:=HX2.out.frozen
      (try dsimp only [List.getElem?_cons_succ,List.getElem?_cons_zero] at g4 y0 y1)
      have hPB:¬ w.heap.size=B:=qo
      have hBP:¬ B=w.heap.size:=qo
      go_wp2_with fail
      go_region_held3 (λw'=>w'.cell? ⟨B,4,none⟩=some (.int .i64 (o)))
       (first|((try dsimp only);(go_simp;done))|go_keep)
       (fail)
      all_goals
       go_wp2_with fail
       exact bodyPost_ret (v:=.tuple #[.agg #[.slice none 0 0,.slice none 0 0],.int .i64 (o)]) (by simp [results,Tryz.results21,go_sem, *]) rfl (Zbr.mk_ HF.out rfl rfl (Zbm.nil _ _) bll)
    ·have e2:(k != 2)=true:=by simpa using k2
     have e22:(k==2)=false:=by simpa using k2
     have hRR:R=.error q:=by
      have:=HRA.out
      rw [asg_kind (by rw [HKD.out];exact HK0.out) (by rw [HKD.out];exact k2),HQE.out] at this
      injection this with this
      exact this.symm
     have HF:=qh (parF src=(([],[]),q)) (by rw [HPF.out];exact parT_no (by rw [HR.out,hRR]))
     clear hRR HRA k2
     go_wp2_with fail
     refine HFL.out.mono ?_
     rintro e u2 ⟨rfl,rfl⟩
     have HW2:=qh (Own (u1.setCell ⟨B,4,none⟩ (.int .i64 q)).drew B 99 [_,_,_,_,.int .i64 q]) (HS1.out.setBad q).1.drew
     have HX2:=qh (Own (u1.setCell ⟨B,4,none⟩ (.int .i64 q)).drew w.heap.size 62 [.slice none 0 0,.slice none 0 0]) (Own.drew (HX1'.out.far (by simp;exact HPB.out) _))
     have HB2:=qh (Below w.heap.size w (u1.setCell ⟨B,4,none⟩ (.int .i64 q)).drew) (Below.drew (Below.setCell HB1'.out (by simp;omega) _))
     generalize (u1.setCell ⟨B,4,none⟩ (.int .i64 q)).drew=u2 at *
     clear x0 x1 x2 x3
     have zB:=HW2.out.lt
     have zP:=HX2.out.lt
     have g4:=HW2.out.cell 4
     have y0:=HX2.out.cell 0
     have y1:=HX2.out.cell 1
     have yf:=HX2.out.frozen
     (try dsimp only [List.getElem?_cons_succ,List.getElem?_cons_zero] at g4 y0 y1)
     have hPB:¬ w.heap.size=B:=qo
     have hBP:¬ B=w.heap.size:=qo
     go_wp2_with fail
     go_region_held3 (λw'=>w'.cell? ⟨B,4,none⟩=some (.int .i64 (q)))
      (first|((try dsimp only);(go_simp;done))|go_keep)
      (fail)
     all_goals
      go_wp2_with fail
      exact bodyPost_ret (v:=.tuple #[.agg #[.slice none 0 0,.slice none 0 0],.int .i64 (q)]) (by simp [results,Tryz.results21,go_sem, *]) rfl (Zbr.mk_ HF.out rfl rfl (Zbm.nil _ _) bll)
def OutStrsG (ls:List (List UInt8)) (w:World) (e:Ending) (w':World):Prop :=
 ∃ A c,e=.returned (.slice A ls.length c)/\Zah w' w.heap.size 9 1 A ls.length c (Zam ls)/\Below w.heap.size w w'
set_option maxHeartbeats 8000000 in
theorem S_SplitAnyG (b:UInt8) (l:List UInt8) (w:World) (hlim:l.length<=1048576) :
  Calls Tryz.prog 17 #[str l,.string ⟨#[b]⟩] w (OutStrsG (splitB b l) w):=by
 have HG0:=qh (Zah (w.alloc (.cells #[] 9)) w.heap.size 9 1 (some ⟨w.heap.size,0,none⟩) 0 0 []) (Zah.lit w #[] 0 rfl (Nat.le_refl _) (Nat.zero_le _))
 go_enter Tryz.func17,Tryz.ntmps17
 go_wp2_with fail
 go_loopw [5,6,7,8] (λo_ f_ i_ _ wr=>∃ (i f:Nat) (B:Option Addr) (d:Nat) (o:List (List UInt8)),i<=l.length/\i_=.int .i64 i/\f_=.int .i64 f/\o_=.slice B o.length d/\SplTo b l o f i/\Zah wr w.heap.size 9 1 B o.length d (Zam o)/\Below w.heap.size w wr) (λ_ _ i_ _ _=>l.length-(RowKit.intOf i_).toNat)
 case atStart=>exact ⟨0,0,_,_,[],Nat.zero_le _,rfl,rfl,rfl,⟨rfl,Nat.le_refl _,λx hx=>by simp at hx⟩,HG0.out,bll⟩
 case round =>
  obtain ⟨i,f,B,d,o,hi,rfl,rfl,rfl,hs,hg,hb⟩:=hrel
  obtain ⟨wo,rfl⟩:=qe wr
  have hol:=hs.len
  have hfi:=hs.2.1
  have HS:=hdQ hs
  have HG:=hdQ hg
  have HB:=hdQ hb
  have hz:=hb.size
  have hnn:o.length<=1048577:=qo
  clear hs hg hb HG0
  by_cases hlt:i<l.length
  ·obtain ⟨x,hx⟩:=qv (l[i])
   have hat:∀ hh:i<ByteArray.size ⟨l.toArray⟩,({ data:=l.toArray }:ByteArray)[i]'hh=x:=λhh=>hx
   have HX:=hdQ hx
   have hi1:IntKind.i64.wrap ((i:Int)+1)=i+1:=IntWalk.i64_in _ qo
   have i2:(i:Int)<l.length:=qo
   have i3:(i:Int)<=l.length:=qo
   have f2:(f:Int)<=i:=qo
   clear hx hol
   by_cases hxb:x=b
   ·subst hxb
    have HC:=hdQ (HS.out.cut hlt HX.out)
    obtain ⟨u,hu⟩:=qv ((l.take i).drop f)
    have hex:({ data:=l.toArray }:ByteArray).extract f i=⟨u.toArray⟩:=by rw [Zdq,hu]
    rw [hu] at HC
    clear hu
    have hb0:∀ hh:0<ByteArray.size ⟨#[x]⟩,({ data := #[x] }:ByteArray)[0]'hh=x:=λ_=>rfl
    go_wp2_with fail
    go_loopw [5,6,8] (λo_ f_ k_ wr=>o_=.slice B o.length d/\f_=.int .i64 f/\k_=.int .i64 0/\Zah wr w.heap.size 9 1 B o.length d (Zam o)/\Below w.heap.size w wr) (λ_ _ _ _=>0)
    case atStart=>exact ⟨rfl,rfl,rfl,HG.out,HB.out⟩
    case round =>
     obtain ⟨rfl,rfl,rfl,hg,hb⟩:=hrel
     have HG:=hdQ hg
     have HB:=hdQ hb
     have hz:=hb.size
     clear hg hb
     go_wp2_with fail
     go_region_held3 (λ_=>True) (trivial) (fail)
     go_wp2_with (at_builtin;refine wpA (w.heap.size) Tryz.underlying50 T.infoString (Zam o) (Zam [u]) (Zbn _) ?_ ?_ ?_;exact (gwx HG.out);exact (ltt 1);rintro A' c' w2 gA;have g1:=gA.1;have g2:=gA.2.1;rw [Za6] at g1;have HG1:=hdQ g1;have HB1:=qh (Below w.heap.size w w2) (Below.trans bll g2);clear gA g1 g2)
     all_goals
      go_wp2_with fail
      go_roundw
      case rel=>exact ⟨i+1,i+1,_,_,_,qo,qg,qg,by rw [List.length_append];rfl,HC.out,by rw [List.length_append];exact HG1.out,HB1.out⟩
      case measure=>exact qn
   ·have HC:=hdQ (HS.out.skip hlt (by rw [HX.out];exact hxb))
    have hb0:∀ hh:0<ByteArray.size ⟨#[b]⟩,({ data := #[b] }:ByteArray)[0]'hh=b:=λ_=>rfl
    have hne:((x.toNat:Int)==b.toNat)=false:=by
     rw [beq_eq_false_iff_ne];intro h;exact hxb (UInt8.toNat_inj.1 qo)
    have hne2:¬ x.toNat=b.toNat:=λh=>hxb (UInt8.toNat_inj.1 h)
    go_wp2_with fail
    go_loopw [5,6,8] (λo_ f_ k_ wr=>∃ k:Nat,k<=1/\o_=.slice B o.length d/\f_=.int .i64 f/\k_=.int .i64 k/\Zah wr w.heap.size 9 1 B o.length d (Zam o)/\Below w.heap.size w wr) (λ_ _ k_ _=>1-(RowKit.intOf k_).toNat)
    case atStart=>exact ⟨0,qo,rfl,rfl,rfl,HG.out,HB.out⟩
    case round =>
     obtain ⟨k,hk,rfl,rfl,rfl,hg,hb⟩:=hrel
     have HG:=hdQ hg
     have HB:=hdQ hb
     have hz:=hb.size
     clear hg hb
     by_cases hk0:k=0
     ·subst hk0
      rw [show ((0:Nat):Int)=0 from rfl]
      go_wp2_with fail
      go_region_held3 (λ_=>True) (trivial) (fail)
      all_goals
       go_wp2_with fail
       go_roundw
       case rel=>exact ⟨1,qo,rfl,rfl,rfl,(gwx HG.out),bll⟩
       case measure=>exact qn
     ·obtain rfl:k=1:=by omega
      rw [show ((1:Nat):Int)=1 from rfl]
      go_wp2_with fail
      go_roundw
      case rel=>exact ⟨i+1,f,_,_,o,qo,qg,rfl,rfl,HC.out,HG.out,HB.out⟩
      case measure=>exact qn
  ·obtain rfl:i=l.length:=by omega
   have HA:=hdQ HS.out.all
   obtain ⟨u,hu⟩:=qv (l.drop f)
   have hex:({ data:=l.toArray }:ByteArray).extract f l.length=⟨u.toArray⟩:=by rw [Zdq,List.take_length,hu]
   have f2:(f:Int)<=l.length:=qo
   rw [hu] at HA
   clear hu hol
   go_wp2_with (at_builtin;refine wpA (w.heap.size) Tryz.underlying50 T.infoString (Zam o) (Zam [u]) (Zbn _) ?_ ?_ ?_;exact (gwx HG.out);exact (ltt 1);rintro A' c' w2 gA;have g1:=gA.1;have g2:=gA.2.1;rw [Za6] at g1;have HG1:=hdQ g1;have HB1:=qh (Below w.heap.size w w2) (Below.trans bll g2);clear gA g1 g2)
   go_ret
   have hll:(splitB b l).length=o.length+1:=by rw [<- HA.out,List.length_append];rfl
   refine ⟨A',c',by rw [hll];rfl, ?_,HB1.out⟩
   rw [hll,<- HA.out]
   exact HG1.out
set_option maxHeartbeats 16000000 in
theorem S_ParseTexture (l:List UInt8) (w:World) (hlim:l.length<=1048576) :
  Calls Tryz.prog 19 #[str l] w (Zft (parTex l) w):=by
 have HSP:=qh (∀ wx,Calls Tryz.prog 17 #[str l,.string ⟨#[58]⟩] wx (OutStrsG (splitB 58 l) wx)) (λwx=>S_SplitAnyG 58 l wx hlim)
 have hws:=Zbe 58 l
 have HM:=qh (∀ p∈splitB 58 l++[[]],p.length<=l.length) (λp hp=>by
  rcases List.mem_append.1 hp with hp|hp
  ·exact Zc3 hp
  ·simp at hp;subst hp;exact Nat.zero_le _)
 have hp0:0<(splitB 58 l).length:=Zb1 58 l
 obtain ⟨W0,hW0⟩:=qv ((splitB 58 l++[[]]).getD 0 [])
 obtain ⟨W1,hW1⟩:=qv ((splitB 58 l++[[]]).getD 1 [])
 have hw0:(splitB 58 l++[[]])[0]? = some W0:=by
  rw [<- hW0,List.getD_eq_getElem?_getD,List.getElem?_eq_getElem qs];rfl
 have hw1:(splitB 58 l++[[]])[1]? = some W1:=by
  rw [<- hW1,List.getD_eq_getElem?_getD,List.getElem?_eq_getElem (by simp;omega)];rfl
 have hl0:W0.length<=l.length:=HM.out _ (List.mem_of_getElem? hw0)
 have hl1:W1.length<=l.length:=HM.out _ (List.mem_of_getElem? hw1)
 have H1:=qh (∀ wx,CB_ Tryz.prog 20 #[str W0] wx (.tuple #[.int .i64 ((parseI W0).getD 0),.bool (parseI W0).isSome])) (λwx=>Zeh _ wx qo)
 have H2:=qh (∀ wx,Calls Tryz.prog 55 #[str W1] wx (OutPL (Za2 W1) wx)) (λwx=>S_ParseInts _ wx qo)
 have HR1:=qh (rawLog l=(parseI W0).getD 0) (by unfold rawLog;rw [hW0])
 have HR2:=qh (rawTex l=(Za2 W1).getD []) (by unfold rawTex;rw [hW1])
 have HHIT:=qh (Zak (rawLog l) (rawTex l)=true->texT (rawLog l) (rawTex l)=l->parTex l=some (rawLog l,rawTex l)) rawTex_hit
 have HMISS:=qh (¬ (Zak (rawLog l) (rawTex l)=true/\texT (rawLog l) (rawTex l)=l)->parTex l=none) (λhn=>by
  cases hp:parTex l with
  | none=>rfl
  | some x =>
   obtain ⟨lg,tx⟩:=x
   obtain ⟨a1,a2,a3,a4⟩:=parTex_some hp
   rw [a3,a4] at hn
   exact absurd ⟨a1,a2⟩ hn)
 rw [HR1.out,HR2.out] at HHIT HMISS
 generalize (parseI W0).isSome=b0 at *
 generalize (parseI W0).getD 0=LG at *
 obtain ⟨R,hR⟩:=qv (Za2 W1)
 rw [hR] at H2 HHIT HMISS
 have HWS:=hdQ (And.intro hw0 hw1)
 have hsl:(Zam (splitB 58 l++[[]])).length=(splitB 58 l).length+1:=qs
 have hv0:(Zam (splitB 58 l++[[]]))[0]? = some (str W0):=by show (List.map str _)[0]? = _;rw [List.getElem?_map,hw0];rfl
 have hv1:(Zam (splitB 58 l++[[]]))[1]? = some (str W1):=by show (List.map str _)[1]? = _;rw [List.getElem?_map,hw1];rfl
 have HV:=hdQ (And.intro hv0 hv1)
 generalize hW:splitB 58 l=ws at *
 clear hW0 hW1 hw0 hw1 HR1 HR2 hR HM hv0 hv1 hsl
 go_enter Tryz.func19,Tryz.ntmps19
 go_wp2_with fail
 refine (HSP.out _).mono ?_
 rintro e w1 ⟨A,c,rfl,hg,hb1⟩
 have hz1:=hb1.size
 (try simp at hz1)
 have HX1:=qh (Own w1 w.heap.size 26 [.int .i64 0,.slice none 0 0]) (Own.step hb1 (Own.new w _ #[_,_]))
 have HB1:=bh w hb1
 have HG1:=qh (Zah w1 (w.heap.size+1) 9 1 A ws.length c (Zam ws)) (hg.mono qs)
 have hcap:=hg.rs.open_.2.1
 unfold maxLen at hcap
 clear hg hb1
 go_wp2_with (first|(at_builtin;refine wpA (w.heap.size+1) Tryz.underlying50 T.infoString (Zam ws) (Zam [[]]) (Zbn _) ?_ ?_ ?_;exact (gwx HG1.out);exact (ltt 1);rintro A' c' w2 gA;have g1:=gA.1;have g2:=gA.2.1;have gZ:=gA.2.2.2.1;(try simp at gZ);rw [Za6] at g1;have HG2:=hdQ g1;have HX2:=qh (Own w2 w.heap.size 26 [.int .i64 0,.slice none 0 0]) (Own.below (owx HX1.out) g2 qo);have HB2:=qh (Below w.heap.size w w2) (Below.trans bll (g2.mono qo));obtain ⟨p1,p2,p3⟩:=g1.rs.open_;obtain ⟨b,o,hA',hbl,hcell⟩:=p3 qo;subst hA';have q0:=(hcell 0 qo).trans HV.out.1;have q1:=(hcell 1 qo).trans HV.out.2;have hbg:=g1.ge b (by simp [gOf]);(try simp only [Nat.add_zero] at q0);have i1:(1:Int)<((ws.length+1:Nat):Int):=qo;have i2:(0:Int)<((ws.length+1:Nat):Int):=qo;clear gA g1 g2 hcell)|fail)
 refine (H1.out _).mono ?_
 rintro e w3 ⟨rfl,hb3⟩
 have hz3:=hb3.size
 (try simp at hz3)
 have HX3:=qh (Own w3 w.heap.size 26 [.int .i64 0,.slice none 0 0]) (Own.step hb3 (owx HX2.out))
 have HT3:=qh (Own w3 w2.heap.size 26 [.int .i64 0,.slice none 0 0]) (Own.step hb3 (Own.new w2 _ #[_,_]))
 have HB3:=bh w hb3
 have r1:w3.cell? ⟨b,o+1,none⟩=some (str W1):=by rw [hb3.cell (p:=⟨b,o+1,none⟩) omm,Below.cell (Below.alloc (Below.refl w2.heap.size w2) (Nat.le_refl _) _) (p:=⟨b,o+1,none⟩) hbl];exact q1
 have t0:=HT3.out.cell 0
 have t1:=HT3.out.cell 1
 have tf:=HT3.out.frozen
 have tl:=HT3.out.lt
 have bn:¬ b=w2.heap.size:=qo
 (try dsimp only [List.getElem?_cons_succ,List.getElem?_cons_zero] at t0 t1)
 clear hb3 q0 q1
 go_wp2_with fail
 refine (H2.out _).mono ?_
 rintro e w4 ⟨A2,c2,rfl,ho,hge,hb4⟩
 have hz4:=hb4.size
 (try simp at hz4)
 have HX4:=qh (Own w4 w.heap.size 26 [.int .i64 0,.slice none 0 0]) (Own.step hb4 (owx HX3.out))
 have HT4:=qh (Own w4 w2.heap.size 26 [.int .i64 LG,.slice none 0 0]) (Own.step hb4 (Own.set_ HT3.out 0 (.int .i64 LG)))
 have HB4:=bh w hb4
 have HGE:=qh (∀ x,x∈gOf A2->w2.heap.size<x) (λx hx=>by have:=hge x hx;(try simp [World.setCell] at this);omega)
 clear t0 t1 tf tl hb4 hge r1 HX3 HT3
 obtain ⟨tex,htex⟩:=qv (R.getD [])
 rw [htex] at ho HHIT HMISS ⊢
 have HO:=hdQ ho
 obtain ⟨T,hT⟩:∃ T:List UInt8,(if Zak LG tex then texT LG tex else [])=T:=⟨_,rfl⟩
 have HFT:=qh (∀ wx,Below w4.heap.size (w4.setCell ⟨w2.heap.size,1,none⟩ (.slice A2 tex.length c2)) wx->CB_ Tryz.prog 57 #[.agg #[.int .i64 LG,.slice A2 tex.length c2]] wx (str T)) (λwx hb=>by
  have:=S_FormatTexture (log:=LG) wx (RS.step (by simpa [World.setCell] using hb) (Zbu.far HO.out (p:=⟨w2.heap.size,1,none⟩) (λx hx=>by have:=HGE.out x hx;simp;omega) (.slice A2 tex.length c2)).rs)
  rw [hT] at this
  exact this)
 have hcase:(T=[]/\parTex l=none)∨(T≠[]/\T≠l/\parTex l=none)∨(T=l/\T≠[]/\parTex l=some (LG,tex)):=by
  cases hv:Zak LG tex with
  | false =>
   rw [hv] at hT
   exact .inl ⟨by rw [<- hT];rfl,HMISS.out (by rw [hv];simp)⟩
  | true =>
   rw [hv] at hT
   simp only [if_true] at hT
   have hne:T≠[]:=by rw [<- hT];exact texT_ne _ _
   by_cases hq:T=l
   ·exact .inr (.inr ⟨hq,hne,HHIT.out hv (by rw [hT];exact hq)⟩)
   ·exact .inr (.inl ⟨hne,hq,HMISS.out (λh=>hq (by rw [<- hT];exact h.2))⟩)
 have t0:=HT4.out.cell 0
 have t1:=HT4.out.cell 1
 have tf:=HT4.out.frozen
 have tl:=HT4.out.lt
 have x0:=HX4.out.cell 0
 have x1:=HX4.out.cell 1
 have xf:=HX4.out.frozen
 have xl:=HX4.out.lt
 have nx:¬ w.heap.size=w2.heap.size:=qo
 have nx2:¬ w2.heap.size=w.heap.size:=qo
 (try dsimp only [List.getElem?_cons_succ,List.getElem?_cons_zero] at t0 t1 x0 x1)
 have HO4:=qh (Zbu (w4.setCell ⟨w2.heap.size,1,none⟩ (.slice A2 tex.length c2)) 1 A2 tex.length c2 3 (ints tex)) (Zbu.far HO.out (p:=⟨w2.heap.size,1,none⟩) (λx hx=>by have:=HGE.out x hx;simp;omega) _)
 clear ho hT htex HHIT HMISS
 rcases hcase with ⟨hq,hr⟩|⟨hq,hq2,hr⟩|⟨hq,hq2,hr⟩
 ·have HPV:=hdQ hr
  subst hq
  clear hr
  go_wp2_with (first|(go_at_call 57;(with_reducible refine (HFT.out _ bll).mono ?_);rintro e w5 ⟨rfl,hb5⟩;have hz5:=hb5.size;(try simp at hz5);have k0:=λo=>hb5.cell (p:=⟨w2.heap.size,o,none⟩) omm;have j0:=λo=>hb5.cell (p:=⟨w.heap.size,o,none⟩) omm;have jf:=λo=>hb5.frozen (p:=⟨w.heap.size,o,none⟩) omm;have jl:w.heap.size<w5.heap.size:=qo)|fail)
  rw [HPV.out]
  exact bodyPost_ret (v:=.tuple #[.agg #[.int .i64 0,.slice none 0 0],.bool false]) (by simp [results,Tryz.results19,go_sem, *]) rfl (Zft.none_ bll)
 ·have HPV:=hdQ hr
  have e1:(T==[])=false:=by simpa using hq
  have e2:(T==l)=false:=by simpa using hq2
  have e3:T.isEmpty=false:=by simpa using hq
  clear hr
  go_wp2_with (first|(go_at_call 57;(with_reducible refine (HFT.out _ bll).mono ?_);rintro e w5 ⟨rfl,hb5⟩;have hz5:=hb5.size;(try simp at hz5);have k0:=λo=>hb5.cell (p:=⟨w2.heap.size,o,none⟩) omm;have j0:=λo=>hb5.cell (p:=⟨w.heap.size,o,none⟩) omm;have jf:=λo=>hb5.frozen (p:=⟨w.heap.size,o,none⟩) omm;have jl:w.heap.size<w5.heap.size:=qo)|fail)
  rw [HPV.out]
  exact bodyPost_ret (v:=.tuple #[.agg #[.int .i64 0,.slice none 0 0],.bool false]) (by simp [results,Tryz.results19,go_sem, *]) rfl (Zft.none_ bll)
 ·have HPV:=hdQ hr
  subst hq
  have e1:(T==[])=false:=by simpa using hq2
  have e3:T.isEmpty=false:=by simpa using hq2
  have e2:(T != T)=false:=qs
  clear hr
  go_wp2_with (first|(go_at_call 57;(with_reducible refine (HFT.out _ bll).mono ?_);rintro e w5 ⟨rfl,hb5⟩;have hz5:=hb5.size;(try simp at hz5);have k0:=λo=>hb5.cell (p:=⟨w2.heap.size,o,none⟩) omm;have j0:=λo=>hb5.cell (p:=⟨w.heap.size,o,none⟩) omm;have jf:=λo=>hb5.frozen (p:=⟨w.heap.size,o,none⟩) omm;have jl:w.heap.size<w5.heap.size:=qo)|fail)
  rw [HPV.out]
  refine bodyPost_ret (v:=.tuple #[.agg #[.int .i64 LG,.slice A2 tex.length c2],.bool true]) (by simp [results,Tryz.results19,go_sem, *]) rfl ⟨A2,c2,rfl, ?_,(λx hx=>by have:=HGE.out x hx;omega),bll⟩
  show Zbu _ 1 A2 tex.length c2 _ (ints tex)
  exact (by repeat (first|(with_reducible exact HO4.out)|(with_reducible exact HO.out)|((with_reducible refine Zbu.far ?_ ?_ _);rotate_left;(intro x hx;have:=HGE.out x hx;simp;omega))|(with_reducible refine Zbu.step ‹_› ?_)))
def Zbf (w:World) (B base:Nat) (TA:Option Addr) (tc:Nat) (Ts:List Zaq) (AA:Option Addr) (ac:Nat) (as_:List Zaa) (X:List Nat) (a:Nat) (dp:Int) (NA:Option Addr) (nc:Nat) (ns:List Zac):Prop :=
 Own w B 174 [.slice TA Ts.length tc,.int .i64 a,.int .i64 dp,.slice NA ns.length nc,.slice AA as_.length ac]/\PMem w B base TA tc Ts AA ac as_ X NA nc ns
abbrev rej (o:Int):List PanicEntry:=[{ v:=.iface 170 (.agg #[.int .i64 o]),recovered:=false }]
def OwnD (w:World) (B:Nat):Prop:=∃ (c0 c1 c3 c4:Value) (dp:Int),Own w B 174 [c0,c1,.int .i64 dp,c3,c4]
def IGo (B base:Nat) (TA:Option Addr) (tc:Nat) (Ts:List Zaq) (AA:Option Addr) (ac:Nat) (as_:List Zaa) (X:List Nat) (dp:Int) (NA:Option Addr) (r:PR) (w:World) (e:Ending) (w':World):Prop :=
 match r with
 | .ok v a ns=>∃ NA' nc',e=.returned (.int .i64 v)/\Zbf w' B base TA tc Ts AA ac as_ X a dp NA' nc' ns/\Only w.heap.size (B::gOf NA) w w'/\(∀ x,x∈gOf NA'->x∈gOf NA∨w.heap.size<=x)
 | .bad o=>e=.panicked (rej o)/\OwnD w' B/\Only w.heap.size (B::gOf NA) w w'
 | .out=>False
abbrev tkV (T:List Zaq) (a:Nat):Value:=.agg #[.int .i64 (kd T a),str (tx T a),.int .i64 (nm T a),.int .i64 (of_ T a)]
section
variable {w w':World} {B base:Nat} {TA:Option Addr} {tc:Nat} {Ts:List Zaq} {AA:Option Addr} {ac:Nat} {as_:List Zaa} {X:List Nat} {NA:Option Addr} {nc:Nat} {ns:List Zac} {a:Nat} {dp:Int}
theorem Zbf.step (hb:Below w.heap.size w w') (h:Zbf w B base TA tc Ts AA ac as_ X a dp NA nc ns):Zbf w' B base TA tc Ts AA ac as_ X a dp NA nc ns:=⟨h.1.step hb,h.2.step hb⟩
theorem Zbf.alloc (h:Zbf w B base TA tc Ts AA ac as_ X a dp NA nc ns) (o:Obj):Zbf (w.alloc o) B base TA tc Ts AA ac as_ X a dp NA nc ns:=h.step ((Below.refl _ _).alloc (Nat.le_refl _) o)
theorem Zbf.drew (h:Zbf w B base TA tc Ts AA ac as_ X a dp NA nc ns):Zbf w.drew B base TA tc Ts AA ac as_ X a dp NA nc ns:=⟨h.1.drew,h.2.drew⟩
theorem Zbf.setAt (h:Zbf w B base TA tc Ts AA ac as_ X a dp NA nc ns) (a':Nat):Zbf (w.setCell ⟨B,1,none⟩ (.int .i64 a')) B base TA tc Ts AA ac as_ X a' dp NA nc ns:=⟨h.1.set_ 1 _,h.2.set_ 1 _⟩
theorem Zbf.setDp (h:Zbf w B base TA tc Ts AA ac as_ X a dp NA nc ns) (d:Int):Zbf (w.setCell ⟨B,2,none⟩ (.int .i64 d)) B base TA tc Ts AA ac as_ X a d NA nc ns:=⟨h.1.set_ 2 _,h.2.set_ 2 _⟩
theorem Zbf.cells (h:Zbf w B base TA tc Ts AA ac as_ X a dp NA nc ns):B<w.heap.size/\w.cell? ⟨B,0,none⟩=some (.slice TA Ts.length tc)/\w.cell? ⟨B,1,none⟩=some (.int .i64 a)/\w.cell? ⟨B,2,none⟩=some (.int .i64 dp)/\w.cell? ⟨B,3,none⟩=some (.slice NA ns.length nc)/\w.cell? ⟨B,4,none⟩=some (.slice AA as_.length ac)/\∀ o,w.frozen? ⟨B,o,none⟩=false :=
 ⟨h.1.lt,h.1.cell 0,h.1.cell 1,h.1.cell 2,h.1.cell 3,h.1.cell 4,h.1.frozen⟩
theorem Zbf.only {a':Nat} {d':Int} (h:Zbf w B base TA tc Ts AA ac as_ X a dp NA nc ns) (hO:Only w.heap.size [B] w w') (ho:Own w' B 174 [.slice TA Ts.length tc,.int .i64 a',.int .i64 d',.slice NA ns.length nc,.slice AA as_.length ac]):Zbf w' B base TA tc Ts AA ac as_ X a' d' NA nc ns :=
 ⟨ho,h.2.keep hO.size (λx hx hl=>hO.block x hl (by simpa using hx))⟩
theorem Only.up2 {B:Nat} {G:List Nat} {a w:World} (h:Only B G a w) {p:Addr} (hp:B<=p.block) (u:Value):Only B G a (w.setCell p u) :=
 ⟨h.os,h.tape,h.output,by simpa [World.setCell] using h.size,λi hi hn=>(Below.heap_setCell w p u i qo).trans (h.block i hi hn)⟩
theorem Zbf.ownD (h:Zbf w B base TA tc Ts AA ac as_ X a dp NA nc ns):OwnD w B:=⟨_,_,_,_,_,h.1⟩
theorem OwnD.step (hb:Below w.heap.size w w') (h:OwnD w B):OwnD w' B:=by obtain ⟨c0,c1,c3,c4,d,h⟩:=h;exact ⟨c0,c1,c3,c4,d,h.step hb⟩
theorem OwnD.drew (h:OwnD w B):OwnD w.drew B:=by obtain ⟨c0,c1,c3,c4,d,h⟩:=h;exact ⟨c0,c1,c3,c4,d,h.drew⟩
end
theorem I_now {B base:Nat} {TA:Option Addr} {tc:Nat} {Ts:List Zaq} {AA:Option Addr} {ac:Nat} {as_:List Zaa} {X:List Nat} {NA:Option Addr} {nc:Nat} {ns:List Zac} {a:Nat} {dp:Int} (w:World)
  (h:Zbf w B base TA tc Ts AA ac as_ X a dp NA nc ns) (ha:a<Ts.length) :
  Calls Tryz.prog 192 #[.pointer (some ⟨B,0,none⟩)] w λe w'=>e=.returned (tkV Ts a)/\Below w.heap.size w w':=by
 obtain ⟨hB,h0,h1,_,_,_,_⟩:=h.cells
 obtain ⟨ht1,ht2,b,o,rfl,hb,hbB,t0,t1,t2,t3⟩:=h.2.tokAt ha
 unfold maxLen at ht2
 have ha':(a:Int)<Ts.length:=qo
 show Calls _ _ _ _ λe w'=>e=.returned (.agg #[.int .i64 (kd Ts a),str (tx Ts a),.int .i64 (nm Ts a),.int .i64 (of_ Ts a)])/\_
 generalize kd Ts a=k at *
 generalize tx Ts a=x at *
 generalize nm Ts a=n at *
 generalize of_ Ts a=f at *
 clear h
 obtain ⟨u,hu⟩:=qv (w.alloc (.cells #[.int .i64 0,.string ⟨#[]⟩,.int .i64 0,.int .i64 0] 101))
 have q0:u.cell? ⟨B,0,none⟩=some (.slice (some ⟨b,o,none⟩) Ts.length tc):=by rw [<- hu,World.cell?_alloc_lt _ _ ⟨B,0,none⟩ hB];exact h0
 have q1:u.cell? ⟨B,1,none⟩=some (.int .i64 a):=by rw [<- hu,World.cell?_alloc_lt _ _ ⟨B,1,none⟩ hB];exact h1
 have r0:u.cell? ⟨b,o+a*4,none⟩=some (.int .i64 k):=by rw [<- hu,World.cell?_alloc_lt _ _ ⟨b,_,none⟩ hb];exact t0
 have r1:u.cell? ⟨b,o+a*4+1,none⟩=some (str x):=by rw [<- hu,World.cell?_alloc_lt _ _ ⟨b,_,none⟩ hb];exact t1
 have r2:u.cell? ⟨b,o+a*4+2,none⟩=some (.int .i64 n):=by rw [<- hu,World.cell?_alloc_lt _ _ ⟨b,_,none⟩ hb];exact t2
 have r3:u.cell? ⟨b,o+a*4+3,none⟩=some (.int .i64 f):=by rw [<- hu,World.cell?_alloc_lt _ _ ⟨b,_,none⟩ hb];exact t3
 have hob:Own u w.heap.size 101 [.int .i64 0,.string ⟨#[]⟩,.int .i64 0,.int .i64 0]:=by rw [<- hu];exact Own.new w 101 #[_,_,_,_]
 have b0:=hob.cell 0
 have b1:=hob.cell 1
 have b2:=hob.cell 2
 have b3:=hob.cell 3
 have bf:=hob.frozen
 have bz:=hob.lt
 (try dsimp only [List.getElem?_cons_succ,List.getElem?_cons_zero] at b0 b1 b2 b3)
 have HU:=hdQ hu
 have HBu:=qh (Below w.heap.size w u) (by rw [<- hu];exact bll)
 clear hob t0 t1 t2 t3 h0 h1
 go_enter Tryz.func192,Tryz.ntmps192
 go_wp2_with fail
 clear hu
 go_still_tail 10,kr
 go_wp2_with fail
 refine bodyPost_ret (v:=.agg #[.int .i64 k,str x,.int .i64 n,.int .i64 f]) (by simp [results,Tryz.results192,go_sem, *]) rfl ⟨rfl,bll⟩
theorem I_next {B base:Nat} {TA:Option Addr} {tc:Nat} {Ts:List Zaq} {AA:Option Addr} {ac:Nat} {as_:List Zaa} {X:List Nat} {NA:Option Addr} {nc:Nat} {ns:List Zac} {a:Nat} {dp:Int} (w:World)
  (h:Zbf w B base TA tc Ts AA ac as_ X a dp NA nc ns) (ha:a<Ts.length) (hs:Ts.length<=1048576) (hk:kd Ts a≠0) :
  Calls Tryz.prog 193 #[.pointer (some ⟨B,0,none⟩)] w λe w'=>e=.returned (tkV Ts a)/\Zbf w' B base TA tc Ts AA ac as_ X (a+1) dp NA nc ns/\Only w.heap.size [B] w w':=by
 have H:=hdQ h
 have hB:=h.cells.1
 have HN:=qh (∀ wx,Zbf wx B base TA tc Ts AA ac as_ X a dp NA nc ns->CB_ Tryz.prog 192 #[.pointer (some ⟨B,0,none⟩)] wx (.agg #[.int .i64 (kd Ts a),str (tx Ts a),.int .i64 (nm Ts a),.int .i64 (of_ Ts a)])) (λwx hx=>I_now wx hx ha)
 have hk':(kd Ts a==0)=false:=beq_eq_false_iff_ne.2 hk
 show Calls _ _ _ _ λe w'=>e=.returned (.agg #[.int .i64 (kd Ts a),str (tx Ts a),.int .i64 (nm Ts a),.int .i64 (of_ Ts a)])/\_
 generalize kd Ts a=k at *
 generalize tx Ts a=x at *
 generalize nm Ts a=n at *
 generalize of_ Ts a=f at *
 clear h
 go_enter Tryz.func193,Tryz.ntmps193
 go_wp2_with fail
 refine (HN.out _ (H.out.alloc _)).mono ?_
 rintro e u1 ⟨rfl,hb1⟩
 have hz1:=hb1.size
 (try simp at hz1)
 have HS1:=hdQ ((H.out.alloc _).step hb1)
 have HO1:=qh (Only w.heap.size [B] w u1) (Only.of_below (bst hb1) _)
 have hob:Own u1 w.heap.size 101 [.int .i64 0,.string ⟨#[]⟩,.int .i64 0,.int .i64 0]:=Own.step hb1 (Own.new w 101 #[_,_,_,_])
 have HOB:=hdQ hob
 have b0:=hob.cell 0
 have b1:=hob.cell 1
 have b2:=hob.cell 2
 have b3:=hob.cell 3
 have bf:=hob.frozen
 have bz:=hob.lt
 (try dsimp only [List.getElem?_cons_succ,List.getElem?_cons_zero] at b0 b1 b2 b3)
 have g1:=HS1.out.cells.2.2.1
 have gf:=HS1.out.cells.2.2.2.2.2.2
 have gB:=HS1.out.cells.1
 have hA:Own (u1.setCell ⟨B,1,none⟩ (.int .i64 ((a:Int)+1))) B 174 [.slice TA Ts.length tc,.int .i64 ((a+1:Nat):Int),.int .i64 dp,.slice NA ns.length nc,.slice AA as_.length ac]:=by have:=(HS1.out.setAt (a+1)).1;simpa using this
 have HA:=hdQ hA
 have hBw:¬ B=w.heap.size:=qo
 have hBw2:¬ w.heap.size=B:=qo
 clear hb1 hob hA
 go_wp2_with fail
 refine bodyPost_ret (v:=.agg #[.int .i64 k,str x,.int .i64 n,.int .i64 f]) (by simp [results,Tryz.results193,go_sem, *]) rfl ⟨rfl,H.out.only ?_ ?_, ?_⟩
 ·exact (by repeat (first|(with_reducible exact HO1.out)|((with_reducible refine Only.up2 ?_ ?_ _);rotate_left;(focus (first|omega|(simp;omega)|(simp;done))))|((with_reducible refine Only.setCell ?_ ?_ _);rotate_left;(focus (simp;done)))|((with_reducible refine Only.al ?_ ?_ _);rotate_left;(focus (first|omega|(simp;omega)|(simp;done))))|(with_reducible refine Only.drew ?_)|(with_reducible refine Only.drewN ?_ _)))
 ·exact (owx HA.out)
 ·exact (by repeat (first|(with_reducible exact HO1.out)|((with_reducible refine Only.up2 ?_ ?_ _);rotate_left;(focus (first|omega|(simp;omega)|(simp;done))))|((with_reducible refine Only.setCell ?_ ?_ _);rotate_left;(focus (simp;done)))|((with_reducible refine Only.al ?_ ?_ _);rotate_left;(focus (first|omega|(simp;omega)|(simp;done))))|(with_reducible refine Only.drew ?_)|(with_reducible refine Only.drewN ?_ _)))
theorem Zfa (p:Value) (k n o:Int) (x:List UInt8) (w:World) :
  Calls Tryz.prog 194 #[p,.agg #[.int .i64 k,str x,.int .i64 n,.int .i64 o]] w λe w'=>e=.panicked (rej o)/\Below w.heap.size w w':=by
 go_enter Tryz.func194,Tryz.ntmps194
 go_wp2_with fail
 exact ⟨rfl,rfl,bll⟩
theorem I_is {B base:Nat} {TA:Option Addr} {tc:Nat} {Ts:List Zaq} {AA:Option Addr} {ac:Nat} {as_:List Zaa} {X:List Nat} {NA:Option Addr} {nc:Nat} {ns:List Zac} {a:Nat} {dp:Int} (x:List UInt8) (w:World)
  (h:Zbf w B base TA tc Ts AA ac as_ X a dp NA nc ns) (ha:a<Ts.length) (hx:x≠[]) :
  Calls Tryz.prog 245 #[.pointer (some ⟨B,0,none⟩),str x] w λe w'=>e=.returned (.bool (decide (pk Ts a=x)))/\Below w.heap.size w w':=by
 have HN:=qh (CB_ Tryz.prog 192 #[.pointer (some ⟨B,0,none⟩)] w (.agg #[.int .i64 (kd Ts a),str (tx Ts a),.int .i64 (nm Ts a),.int .i64 (of_ Ts a)])) (I_now w h ha)
 have hB:=h.cells.1
 have hd:decide (pk Ts a=x)=(kd Ts a==3&&tx Ts a==x):=by
  unfold pk
  by_cases h3:kd Ts a=3
  ·rw [if_pos h3,h3]
   by_cases h4:tx Ts a=x<;>simp [h4]
  ·rw [if_neg h3]
   have:(kd Ts a==3)=false:=beq_eq_false_iff_ne.2 h3
   rw [this];simp;exact λe=>hx e
 rw [hd]
 generalize kd Ts a=k at *
 generalize tx Ts a=y at *
 generalize nm Ts a=n at *
 generalize of_ Ts a=f at *
 have HHd:=hdQ hd
 clear h hd
 cases h3:(k==3) with
 | true =>
  obtain rfl:k=3:=by simpa using h3
  clear h3
  cases h4:(y==x) with
  | true =>
   go_enter Tryz.func245,Tryz.ntmps245
   go_wp2_with (first|(go_at_call 192;refine HN.out.mono ?_;rintro e u1 ⟨rfl,hb1⟩;have hz1:=hb1.size;have HB1:=hdQ hb1;clear hb1)|fail)
   go_ret
   exact ⟨rfl,bll⟩
  | false =>
   go_enter Tryz.func245,Tryz.ntmps245
   go_wp2_with (first|(go_at_call 192;refine HN.out.mono ?_;rintro e u1 ⟨rfl,hb1⟩;have hz1:=hb1.size;have HB1:=hdQ hb1;clear hb1)|fail)
   go_ret
   exact ⟨rfl,bll⟩
 | false =>
  go_enter Tryz.func245,Tryz.ntmps245
  go_wp2_with (first|(go_at_call 192;refine HN.out.mono ?_;rintro e u1 ⟨rfl,hb1⟩;have hz1:=hb1.size;have HB1:=hdQ hb1;clear hb1)|fail)
  go_ret
  exact ⟨rfl,bll⟩
def INeed (B base:Nat) (TA:Option Addr) (tc:Nat) (Ts:List Zaq) (AA:Option Addr) (ac:Nat) (as_:List Zaa) (X:List Nat) (a:Nat) (dp:Int) (NA:Option Addr) (nc:Nat) (ns:List Zac) (ok:Bool) (w:World) (e:Ending) (w':World):Prop :=
 Only w.heap.size [B] w w'/\(match ok with
 | true=>e=.returned (.tuple #[])/\Zbf w' B base TA tc Ts AA ac as_ X (a+1) dp NA nc ns
 | false=>e=.panicked (rej (of_ Ts a))/\OwnD w' B)
theorem pk_kd {T:List Zaq} {a:Nat} {x:List UInt8} (h:pk T a=x) (hx:x≠[]):kd T a≠0:=by
 unfold pk at h
 split at h
 ·rename_i h3;rw [h3];decide
 ·exact absurd h.symm hx
theorem I_need {B base:Nat} {TA:Option Addr} {tc:Nat} {Ts:List Zaq} {AA:Option Addr} {ac:Nat} {as_:List Zaa} {X:List Nat} {NA:Option Addr} {nc:Nat} {ns:List Zac} {a:Nat} {dp:Int} (x:List UInt8) (w:World)
  (h:Zbf w B base TA tc Ts AA ac as_ X a dp NA nc ns) (ha:a<Ts.length) (hs:Ts.length<=1048576) (hx:x≠[]) :
  Calls Tryz.prog 195 #[.pointer (some ⟨B,0,none⟩),str x] w (INeed B base TA tc Ts AA ac as_ X a dp NA nc ns (decide (pk Ts a=x)) w):=by
 have H:=hdQ h
 have HIS:=hdQ (I_is x w h ha hx)
 clear h
 by_cases hp:pk Ts a=x
 ·rw [show decide (pk Ts a=x)=true by simp [hp]] at HIS ⊢
  have HNX:=qh (∀ wx,Below w.heap.size w wx->Calls Tryz.prog 193 #[.pointer (some ⟨B,0,none⟩)] wx λe w'=>∃ v,e=.returned v/\Zbf w' B base TA tc Ts AA ac as_ X (a+1) dp NA nc ns/\Only wx.heap.size [B] wx w') (λwx hb=>(I_next wx (H.out.step hb) ha hs (pk_kd hp hx)).mono (λe w' q=>⟨_,q⟩))
  clear hp
  go_enter Tryz.func195,Tryz.ntmps195
  go_wp2_with (first|(go_at_call 245;refine HIS.out.mono ?_;rintro e u1 ⟨rfl,hb1⟩;have HB1:=hdQ hb1;clear hb1)|(go_at_call 193;refine (HNX.out _ HB1.out).mono ?_;rintro e u2 ⟨v,rfl,hs2,hO2⟩;have HS2:=hdQ hs2;have HO2:=qh (Only w.heap.size [B] w u2) ((Only.of_below HB1.out _).sub hO2 HB1.out.size (λx hx=>.inl hx));clear hs2 hO2)|fail)
  refine bodyPost_end (results_none rfl _ _ _) rfl ⟨HO2.out,rfl,HS2.out⟩
 ·rw [show decide (pk Ts a=x)=false by simp [hp]] at HIS ⊢
  have HN:=qh (∀ wx,Below w.heap.size w wx->CB_ Tryz.prog 192 #[.pointer (some ⟨B,0,none⟩)] wx (.agg #[.int .i64 (kd Ts a),str (tx Ts a),.int .i64 (nm Ts a),.int .i64 (of_ Ts a)])) (λwx hb=>I_now wx (H.out.step hb) ha)
  generalize kd Ts a=k at *
  generalize tx Ts a=y at *
  generalize nm Ts a=n at *
  generalize hf:of_ Ts a=f at *
  have HF:=hdQ hf
  clear hp hf
  go_enter Tryz.func195,Tryz.ntmps195
  go_wp2_with (first|(go_at_call 245;refine HIS.out.mono ?_;rintro e u1 ⟨rfl,hb1⟩;have HB1:=hdQ hb1;clear hb1)|(go_at_call 192;refine (HN.out _ HB1.out).mono ?_;rintro e u2 ⟨rfl,hb2⟩;have HB2:=qh (Below w.heap.size w u2) (Below.step hb2 HB1.out HB1.out.size);clear hb2)|(go_at_call 194;refine (Zfa _ _ _ _ _ _).mono ?_;rintro e u3 ⟨rfl,hb3⟩;have HB3:=qh (Below w.heap.size w u3) (Below.step hb3 HB2.out HB2.out.size);clear hb3)|fail)
  exact ⟨rfl,Only.of_below HB3.out _,by rw [HF.out],(H.out.ownD).step HB3.out⟩
theorem I_add {B base:Nat} {TA:Option Addr} {tc:Nat} {Ts:List Zaq} {AA:Option Addr} {ac:Nat} {as_:List Zaa} {X:List Nat} {NA:Option Addr} {nc:Nat} {ns:List Zac} {a:Nat} {dp:Int} {op num:Int} {name:List UInt8} {args:List Int} {A:Option Addr} {c:Nat} (w:World)
  (h:Zbf w B base TA tc Ts AA ac as_ (gOf A++X) a dp NA nc ns) (ha0:0<a) (ha:a<Ts.length) (hs:Ts.length<=1048576)
  (hr:Zbu w 1 A args.length c 3 (ints args)) (hap:∀ y,y∈gOf A->y∉X) :
  Calls Tryz.prog 274 #[.pointer (some ⟨B,0,none⟩),nodeV op name num (.slice A args.length c)] w (IGo B base TA tc Ts AA ac as_ X dp NA (emit Ts (op,name,num,args) a ns) w):=by
 have H:=hdQ h
 have HR:=hdQ hr
 have HAP:=hdQ hap
 obtain ⟨hB,h0,h1,h2,h3,h4,hf⟩:=h.cells
 have hbase:=h.2.low
 obtain ⟨a',rfl⟩:∃ a',a=a'+1:=⟨a-1,qo⟩
 have hBw:¬ B=w.heap.size:=qo
 have hBw':¬ w.heap.size=B:=qo
 clear hr hap
 by_cases h60:ns.length=60
 ·have HE:=qh (emit Ts (op,name,num,args) (a'+1) ns=.bad (of_ Ts a')) (by unfold emit;rw [if_pos h60];rfl)
  have h60':(ns.length:Int)=60:=qo
  have e60:((ns.length:Int)==60)=true:=by simpa using h60'
  obtain ⟨ht1,ht2,b,o,rfl,hb,hbB,t0,t1,t2,t3⟩:=h.2.tokAt (a:=a') qo
  unfold maxLen at ht2
  have ha':(a':Int)<Ts.length:=qo
  generalize kd Ts a'=k at *
  generalize tx Ts a'=x at *
  generalize nm Ts a'=n at *
  generalize hof:of_ Ts a'=f at *
  have hw1:IntKind.i64.wrap (a':Int)=a':=IntWalk.i64_in _ qo
  have hw2:IntKind.i64.wrap ((a':Int)+1-1)=a':=by rw [show (a':Int)+1-1=a' by omega];exact hw1
  clear h h60' h60 hof
  go_enter Tryz.func274,Tryz.ntmps274
  go_wp2_with fail
  refine wp_region_held_drew (S:=(λw'=>w'.cell? ⟨B,0,none⟩=some (.slice (some ⟨b,o,none⟩) Ts.length tc)/\w'.cell? ⟨B,1,none⟩=some (.int .i64 ((a':Int)+1))/\w'.cell? ⟨b,o+a'*4,none⟩=some (.int .i64 k)/\w'.cell? ⟨b,o+a'*4+1,none⟩=some (str x)/\w'.cell? ⟨b,o+a'*4+2,none⟩=some (.int .i64 n)/\w'.cell? ⟨b,o+a'*4+3,none⟩=some (.int .i64 f))) kr (by (try dsimp only);refine ⟨?_, ?_, ?_, ?_, ?_, ?_⟩<;>(go_simp;done)) (λhHeld=>?_)
  refine tkH 0 ?_;(try simp only [LO,Act.put])
  refine tkH 1 ?_;(try simp only [LO,Act.put])
  refine tkH 2 ?_;(try simp only [LO,Act.put])
  refine tkH 3 ?_;(try simp only [LO,Act.put])
  refine tkH 4 ?_;(try simp only [LO,Act.put])
  refine tkH 5 ?_;(try simp only [LO,Act.put])
  refine tkH 6 ?_;(try simp only [LO,Act.put])
  refine tkH 7 ?_;(try simp only [LO,Act.put])
  refine tkH 8 ?_;(try simp only [LO,Act.put])
  refine tkH 9 ?_;(try simp only [LO,Act.put])
  refine tkH 10 ?_;(try simp only [LO,Act.put])
  refine tkH 11 ?_;(try simp only [LO,Act.put])
  refine wpAnyH_ready (rs:=[12]) kr qs ?_
  refine AllReadyH.cons rfl (λK hK=>?_) AllReadyH.nil
  go_simp
  (with_reducible refine (Zfa _ _ _ _ _ _).mono ?_)
  rintro e u3 ⟨rfl,hb3⟩
  have hz3:=hb3.size
  have HB3:=bh w hb3
  refine ⟨rfl, ?_⟩
  rw [HE.out]
  exact ⟨rfl,(H.out.ownD).step HB3.out,Only.of_below HB3.out _⟩
 ·have HE:=qh (emit Ts (op,name,num,args) (a'+1) ns=.ok ns.length (a'+1) (ns++[(op,name,num,args)])) (by unfold emit;rw [if_neg h60])
  have e60:((ns.length:Int)==60)=false:=by rw [beq_eq_false_iff_ne];omega
  obtain ⟨cs,hg,hn,hpc⟩:=H.out.2.nod
  have HPC:=hdQ hpc
  have HG:=hdQ hg
  have HN:=hdQ hn
  have HLT:=qh (ns.length<60) (by have:=H.out.2.cap;omega)
  have hns:=H.out.2.cap
  clear hg hn h60 hpc h
  go_enter Tryz.func274,Tryz.ntmps274
  go_wp2_with fail
  refine Zcw (S:=(λw'=>w'.cell? ⟨B,3,none⟩=some (.slice NA ns.length nc)/\w'.frozen? ⟨B,3,none⟩=false/\w'.cell? ⟨w.heap.size,0,none⟩=some (.int .i64 op)/\w'.cell? ⟨w.heap.size,1,none⟩=some (str name)/\w'.cell? ⟨w.heap.size,2,none⟩=some (.int .i64 num)/\w'.cell? ⟨w.heap.size,3,none⟩=some (.slice A args.length c))) 12 kr (by (try dsimp only);refine ⟨?_, ?_, ?_, ?_, ?_, ?_⟩<;>(go_simp;done)) (λhHeld=>?_)
  refine tkM 0 ?_
  refine tkM 1 ?_
  refine tkM 2 ?_
  refine tkM 3 ?_
  refine tkM 4 ?_
  refine tkM 5 ?_
  refine tkM 6 ?_
  refine Zag (i:=7) rfl kr (λK7 hK7=>?_)
  go_simp
  refine hK7.out _ _ (λ_=>by (try dsimp only);refine ⟨?_, ?_, ?_, ?_, ?_, ?_⟩<;>(go_simp;done)) (λhHeld7=>?_)
  have hX7:=hHeld7 qd
  refine Zag (i:=8) rfl kr (λK8 hK8=>?_)
  (refine Zea qr _ _ 59 qr (base) 155 (.agg #[.int .i64 0,.string ByteArray.empty,.int .i64 0,.slice none 0 0]) 4 56 Tryz.underlying59 T.infoNode rfl qd (xs:=cs) qr ?_ (ys:=[.int .i64 op,str name,.int .i64 num,.slice A args.length c]) qr ?_ (node_one _ _ _ _) ?_ ?_ ?_ ?_;(exact (gwx HG.out));(exact (ltt 1));(unfold maxLen;omega);(omega);(first|omega|(simp<;>omega));rintro A' c' w2 gA)
  have hsa:=gA.2.2.2.1
  (try simp at hsa)
  have hem:=PMem.put H.out.2 HLT.out bll HG.out HN.out HPC.out HR.out HAP.out gA
  have hbx2:Box w2 w.heap.size [.int .i64 op,str name,.int .i64 num,.slice A args.length c]:=by
   have hfa:=(Za5.far gA (b:=w.heap.size) (by simp;try omega) (λe=>by have:=HG.out.lt _ e;omega)).1
   refine Box.mk4 qo ?_ ?_ ?_ ?_<;>(rw [hfa];go_simp;done)
  have ho2:Own w2 B 174 [.slice TA Ts.length tc,.int .i64 ((a'+1:Nat):Int),.int .i64 dp,.slice NA ns.length nc,.slice AA as_.length ac]:=hem.2.1.own H.out.1 hB (λhN=>(H.out.2.apN B hN).1 rfl)
  have HO2:=hdQ ho2
  have HE2:=hdQ hem
  have k2:=ho2.cell 3
  have kf:=ho2.frozen 3
  (try dsimp only [List.getElem?_cons_succ,List.getElem?_cons_zero] at k2)
  obtain ⟨zb2,e0,e1,e2,e3⟩:=hbx2.open4
  have hBw2:B<w2.heap.size:=qo
  clear gA hem ho2 hbx2
  refine hK8.out _ _ (λ_=>by (try dsimp only);refine ⟨?_, ?_, ?_, ?_, ?_, ?_⟩<;>(go_simp;done)) (λhHeld8=>?_)
  have hX8:=hHeld8 qd
  refine Zag (i:=9) rfl kr (λK9 hK9=>?_)
  go_simp
  refine hK9.out _ _ (λ_=>hX8) (λhHeld9=>?_)
  have hX9:=hHeld9 qd
  refine Zag (i:=10) rfl kr (λK10 hK10=>?_)
  go_simp
  refine hK10.out _ _ (λ_=>hX9) (λhHeld10=>?_)
  have hX10:=hHeld10 qd
  refine Zag (i:=11) rfl kr (λK11 hK11=>?_)
  go_simp
  refine hK11.out _ _ (λ_=>hX10) (λhHeld11=>?_)
  have hX11:=hHeld11 qd
  refine Zag (i:=12) rfl kr (λK12 hK12=>?_)
  go_simp
  refine hK12.out _ _ (λh=>absurd rfl h) (λhHeld12=>?_)
  refine Zcx kr ?_ _
  have hst:Zbf (w2.setCell ⟨B,3,none⟩ (.slice A' (ns.length+1) c')) B base TA tc Ts AA ac as_ X (a'+1) dp A' c' (ns++[(op,name,num,args)]):=⟨by have:=HO2.out.set_ 3 (.slice A' (ns.length+1) c');simpa using this,HE2.out.1.set_ 3 _⟩
  have HST:=hdQ hst
  have HON:=qh (Only w.heap.size (B::gOf NA) w (w2.setCell ⟨B,3,none⟩ (.slice A' (ns.length+1) c'))) (Only.setCell (HE2.out.2.1.mono' (λx hx=>by simp [hx])) qs _)
  have m2:=hst.cells.2.2.2.2.1
  have mB:=hst.cells.1
  have hl:(ns++[(op,name,num,args)]).length=ns.length+1:=qs
  rw [hl] at m2
  generalize w2.setCell ⟨B,3,none⟩ (.slice A' (ns.length+1) c')=w3 at *
  clear hst hX8 hX9 hX10 hX11 hHeld k2 kf e0 e1 e2 e3 hl
  go_wp2_with fail
  go_ret
  rw [HE.out]
  exact ⟨_,_,rfl,HST.out,HON.out,HE2.out.2.2⟩
end Go.Proofs.YticdknjoapdmeaaGreatDoor
