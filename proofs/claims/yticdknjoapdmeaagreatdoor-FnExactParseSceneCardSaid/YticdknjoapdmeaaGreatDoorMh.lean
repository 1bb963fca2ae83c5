/- Several texts in one: PriR, PriB, PriC, PriF, PriG, PriL, LexI. -/
import Derived.Test.YticdknjoapdmeaaGreatDoorMg
import Derived.Deep.LoopGhost
import Derived.Test.YticdknjoapdmeaaGreatDoorMd
import Derived.Recover
import Derived.Test.YticdknjoapdmeaaGreatDoorMe
import Derived.Laws.IdiomStrings
import Derived.Laws.Externs
set_option linter.unusedVariables false
set_option linter.unusedSimpArgs false
namespace Go.Proofs.YticdknjoapdmeaaGreatDoor
set_option maxHeartbeats 2000000
set_option maxRecDepth 100000
open Go.RowKit Go.Lib
section
variable {w w' w1:World} {B base:Nat} {TA:Option Addr} {tc:Nat} {Ts:List Zaq} {AA:Option Addr} {ac:Nat} {as_:List Zaa} {X:List Nat} {NA NA1:Option Addr} {nc:Nat} {ns:List Zac} {a:Nat} {dp:Int} {r:PR} {e:Ending}
theorem Zbf.ownX {Y:List Nat} (h:Zbf w B base TA tc Ts AA ac as_ X a dp NA nc ns) (hb:Below w.heap.size w w') (hY:∀ y,y∈Y->y<w'.heap.size/\(y∈X∨w.heap.size<=y)):Zbf w' B base TA tc Ts AA ac as_ Y a dp NA nc ns:=⟨h.1.step hb,h.2.own hb hY⟩
theorem Zbf.fresh_ (h:Zbf w B base TA tc Ts AA ac as_ X a dp NA nc ns) (o:Obj):Zbf (w.alloc o) B base TA tc Ts AA ac as_ (gOf (some ⟨w.heap.size,0,none⟩)++X) a dp NA nc ns:=h.ownX ((Below.refl _ _).alloc (Nat.le_refl _) _) (λy hy=>by
  simp only [gOf,List.mem_append,List.mem_cons,List.not_mem_nil,or_false] at hy
  rcases hy with rfl|hy
  ·exact ⟨qs,.inr (Nat.le_refl _)⟩
  ·exact ⟨by have:=(h.2.xlt y hy).1;simp;omega,.inl hy⟩)
theorem IGo.comp (h1:Only w.heap.size (B::gOf NA) w w1) (hs:∀ x,x∈gOf NA1->x∈gOf NA∨w.heap.size<=x) (h:IGo B base TA tc Ts AA ac as_ X dp NA1 r w1 e w'):IGo B base TA tc Ts AA ac as_ X dp NA r w e w':=by
 have hsub:∀ x,x∈B::gOf NA1->x∈B::gOf NA∨w.heap.size<=x:=λx hx=>by
  rcases List.mem_cons.1 hx with rfl|hx
  ·exact .inl qs
  ·exact (hs x hx).imp (λq=>List.mem_cons_of_mem _ q) id
 cases r with
 | ok v a ns =>
  obtain ⟨NA',nc',rfl,h2,h3,h4⟩:=h
  refine ⟨NA',nc',rfl,h2,h1.sub h3 h1.size hsub,λx hx=>?_⟩
  rcases h4 x hx with q|q
  ·exact hs x q
  ·exact .inr (Nat.le_trans h1.size q)
 | bad o =>
  obtain ⟨rfl,h2,h4⟩:=h
  exact ⟨rfl,h2,h1.sub h4 h1.size hsub⟩
 | out=>exact h.elim
end
def opF (add:Bool):Nat:=if add then 247 else 275
def biF (add:Bool):Nat:=if add then 196 else 247
structure IPc (B base:Nat) (TA:Option Addr) (tc:Nat) (Ts:List Zaq) (AA:Option Addr) (ac:Nat) (as_:List Zaa) (n:Nat):Prop where
 bin:∀ (add:Bool) (d a:Nat) (X:List Nat) (NA:Option Addr) (nc:Nat) (ns:List Zac) (w:World),Zbf w B base TA tc Ts AA ac as_ X a d NA nc ns->a<Ts.length->d<=64->mu (.bin add)+4*(Ts.length-a)<=n ->
  Calls Tryz.prog (biF add) #[.pointer (some ⟨B,0,none⟩)] w (IGo B base TA tc Ts AA ac as_ X d NA (prs Ts n (.bin add) (d+1) a ns) w)
 fac:∀ (d a:Nat) (X:List Nat) (NA:Option Addr) (nc:Nat) (ns:List Zac) (w:World),Zbf w B base TA tc Ts AA ac as_ X a d NA nc ns->a<Ts.length->d<=64->1+4*(Ts.length-a)<=n ->
  Calls Tryz.prog 275 #[.pointer (some ⟨B,0,none⟩)] w (IGo B base TA tc Ts AA ac as_ X d NA (prs Ts n .fac (d+1) a ns) w)
 cal:∀ (name:List UInt8) (d a:Nat) (X:List Nat) (NA:Option Addr) (nc:Nat) (ns:List Zac) (w:World),Zbf w B base TA tc Ts AA ac as_ X a d NA nc ns->a+1<Ts.length->d<=64->pk Ts a=[40]->4+4*(Ts.length-(a+1))<=n ->
  Calls Tryz.prog 290 #[.pointer (some ⟨B,0,none⟩),str name] w (IGo B base TA tc Ts AA ac as_ X d NA (prs Ts n (.args name []) (d+1) (a+1) ns) w)
theorem IPc.opd {B base:Nat} {TA:Option Addr} {tc:Nat} {Ts:List Zaq} {AA:Option Addr} {ac:Nat} {as_:List Zaa} {n:Nat} (ih:IPc B base TA tc Ts AA ac as_ n) (add:Bool) {d a:Nat} {X:List Nat} {NA:Option Addr} {nc:Nat} {ns:List Zac} (w:World)
  (h:Zbf w B base TA tc Ts AA ac as_ X a d NA nc ns) (ha:a<Ts.length) (hd:d<=64) (hn:mu (opd add)+4*(Ts.length-a)<=n) :
  Calls Tryz.prog (opF add) #[.pointer (some ⟨B,0,none⟩)] w (IGo B base TA tc Ts AA ac as_ X d NA (prs Ts n (Go.Proofs.YticdknjoapdmeaaGreatDoor.opd add) (d+1) a ns) w):=by
 cases add with
 | true=>exact ih.bin false d a X NA nc ns w h ha hd hn
 | false=>exact ih.fac d a X NA nc ns w h ha hd hn
theorem opF_call (add:Bool) (args:Array Value) (w:World):(callFunc (opF add) args).run Tryz.prog w=.ok (.enter (opF add) args) w:=by
 cases add
 ·show (callFunc 275 args).run Tryz.prog w=.ok (.enter 275 args) w
  have hf:=Tryz.func275
  simp [go_sem,hf]
 ·show (callFunc 247 args).run Tryz.prog w=.ok (.enter 247 args) w
  have hf:=Tryz.func247
  simp [go_sem,hf]
def ChInv (B base:Nat) (TA:Option Addr) (tc:Nat) (Ts:List Zaq) (AA:Option Addr) (ac:Nat) (as_:List Zaa) (X:List Nat) (NA:Option Addr) (n d:Nat) (add:Bool) (R:PR) (w:World) (k:Nat) (v:Int) (wr:World):Prop :=
 ∃ (a1:Nat) (NA1:Option Addr) (nc1:Nat) (n1:List Zac) (f:Nat),Zbf wr B base TA tc Ts AA ac as_ X a1 d NA1 nc1 n1/\a1<Ts.length/\4+4*(Ts.length-a1)<=f/\f<=n/\f<=k/\prs Ts f (.loop add v) (d+1) a1 n1=R/\Only w.heap.size (B::gOf NA) w wr/\(∀ x,x∈gOf NA1->x∈gOf NA∨w.heap.size<=x)
set_option maxHeartbeats 2000000 in
theorem I_chain {B base:Nat} {TA:Option Addr} {tc:Nat} {Ts:List Zaq} {AA:Option Addr} {ac:Nat} {as_:List Zaa} {k:Nat} (hk:TokK Ts) (add:Bool) (c0 c1:UInt8) (i1 i2:Int) (hop:∀ x,opS add x=if x=[c0] then i1 else if x=[c1] then i2 else 0) (hi1:i1≠0) (hi2:i2≠0) (hcc:c1≠c0) {d a:Nat} {X:List Nat} {NA:Option Addr} {nc:Nat} {ns:List Zac} (w:World)
  (HOP:Hid (∀ f,f<=k->∀ (a:Nat) (NA:Option Addr) (nc:Nat) (ns:List Zac) (wx:World),Zbf wx B base TA tc Ts AA ac as_ X a d NA nc ns->a<Ts.length->mu (opd add)+4*(Ts.length-a)<=f ->
   Calls Tryz.prog (opF add) #[.pointer (some ⟨B,0,none⟩)] wx (IGo B base TA tc Ts AA ac as_ X d NA (prs Ts f (opd add) (d+1) a ns) wx)))
  (h:Zbf w B base TA tc Ts AA ac as_ X a d NA nc ns) (ha:a<Ts.length) (hn:mu (.bin add)+4*(Ts.length-a)<=k+1) :
  Calls Tryz.prog 246 #[.pointer (some ⟨B,0,none⟩),.func (.func (opF add)) #[.pointer (some ⟨B,0,none⟩)] #[],str [c0,c1],.int .i64 i1,.int .i64 i2] w (IGo B base TA tc Ts AA ac as_ X d NA (prs Ts (k+1) (.bin add) (d+1) a ns) w):=by
 obtain ⟨h1,h2,h3⟩:=mu_opd add
 have hE:=Zbq hk.ok k (opd add) (d+1) a ns ha qo
 have HC:=hdQ (HOP.out k (Nat.le_refl _) a NA nc ns w h ha qo)
 have hcf:=opF_call add
 have he1:({ data := #[c0,c1] }:ByteArray).extract 0 1=⟨#[c0]⟩:=rfl
 have he2:({ data := #[c0,c1] }:ByteArray).extract 1 2=⟨#[c1]⟩:=rfl
 cases hr0:prs Ts k (opd add) (d+1) a ns with
 | out=>exact absurd hr0 hE.1
 | bad o =>
  rw [prs_bin2 hr0]
  rw [hr0] at HC
  generalize opF add=gF at *
  clear hop hE h hn hr0 HOP
  go_enter Tryz.func246,Tryz.ntmps246
  go_wp2_with fail
  refine HC.out.mono ?_
  rintro e w1 ⟨rfl,q1,q2⟩
  have Q1:=hdQ q1
  have Q2:=hdQ q2
  clear q1 q2
  go_wp2_with fail
  exact ⟨rfl,rfl,Q1.out,Q2.out⟩
 | ok v0 a1 n1 =>
  have h5:=hE.2 v0 a1 n1 hr0
  rw [st_opd] at h5
  obtain ⟨R,hR⟩:=qv (prs Ts (k+1) (.bin add) (d+1) a ns)
  rw [hr0] at HC
  have HST:=qh (∀ (NA':Option Addr) (nc':Nat) (w1:World),Zbf w1 B base TA tc Ts AA ac as_ X a1 d NA' nc' n1->Only w.heap.size (B::gOf NA) w w1->(∀ x,x∈gOf NA'->x∈gOf NA∨w.heap.size<=x)->ChInv B base TA tc Ts AA ac as_ X NA k d add R w k v0 w1) (λNA' nc' w1 q1 q2 q3=>⟨a1,NA',nc',n1,k,q1,h5.2,qo,Nat.le_refl _,Nat.le_refl _,by rw [<- hR,prs_bin1 hr0],q2,q3⟩)
  rw [hR]
  generalize opF add=gF at *
  clear hE h hn hR hr0
  go_enter Tryz.func246,Tryz.ntmps246
  go_wp2_with fail
  (with_reducible refine HC.out.mono ?_)
  rintro e w1 ⟨NA',nc',rfl,q1,q2,q3⟩
  have HV:=hdQ (HST.out NA' nc' w1 q1 q2 q3)
  clear q1 q2 q3
  go_wp2_with fail
  go_loopg [11,12,13] k (λg p _ _ wr=>∃ v:Int,p=.int .i64 v/\ChInv B base TA tc Ts AA ac as_ X NA k d add R w g v wr)
  case atStart=>exact ⟨v0,rfl,HV.out⟩
  case round =>
   obtain ⟨v',rfl,a2,NA1,nc1,n2,f,hst,ha1,hf1,hf2,hf3,hR,hO,hS⟩:=hrel
   obtain ⟨wo,rfl⟩:=qe wr
   obtain ⟨f',rfl⟩:∃ f',f=f'+1:=⟨f-1,qo⟩
   have HS:=hdQ hst
   have HO:=hdQ hO
   have HSb:=hdQ hS
   have hOz:=hO.size
   have HI1:=hdQ (I_is [c0] wo hst ha1 qs)
   have HI2:=qh (∀ wx,Below wo.heap.size wo wx->CB_ Tryz.prog 245 #[.pointer (some ⟨B,0,none⟩),.string ⟨#[c1]⟩] wx (.bool (decide (pk Ts a2=[c1])))) (λwx hb=>I_is [c1] wx (HS.out.step hb) ha1 qs)
   have HI1:Hid (CB_ Tryz.prog 245 #[.pointer (some ⟨B,0,none⟩),.string ⟨#[c0]⟩] wo (.bool (decide (pk Ts a2=[c0])))):=HI1
   have HNX:=qh (kd Ts a2≠0->∀ wx,Below wo.heap.size wo wx->Calls Tryz.prog 193 #[.pointer (some ⟨B,0,none⟩)] wx λe w'=>∃ v,e=.returned v/\Zbf w' B base TA tc Ts AA ac as_ X (a2+1) d NA1 nc1 n2/\Only wx.heap.size [B] wx w') (λhkd wx hb=>(I_next wx (HS.out.step hb) ha1 hk.len hkd).mono (λe w' q=>⟨_,q⟩))
   clear HV HST HC hst hO hS
   by_cases hp0:pk Ts a2=[c0]
   ·have hin1:=Zc9 hk.ok ha1 (by rw [hp0];simp)
    have HNX:=hdQ (HNX.out (pk_kd hp0 qs))
    rw [show decide (pk Ts a2=[c0])=true by simp [hp0]] at HI1
    have hqo:opS add (pk Ts a2)=i1:=by rw [hop];simp [*]
    have hq0:opS add (pk Ts a2)≠0:=by rw [hqo];assumption
    have hE:=Zbq hk.ok f' (opd add) (d+1) (a2+1) n2 hin1 qo
    have HOPR:=qh (∀ wx,Zbf wx B base TA tc Ts AA ac as_ X (a2+1) d NA1 nc1 n2->Calls Tryz.prog gF #[.pointer (some ⟨B,0,none⟩)] wx (IGo B base TA tc Ts AA ac as_ X d NA1 (prs Ts f' (opd add) (d+1) (a2+1) n2) wx)) (λwx hx=>HOP.out f' qo (a2+1) NA1 nc1 n2 wx hx hin1 qo)
    cases hr:prs Ts f' (opd add) (d+1) (a2+1) n2 with
    | out=>exact absurd hr hE.1
    | bad o =>
     rw [prs_loop2 hq0 hr] at hR
     subst hR
     rw [hr] at HOPR
     clear hr hE hq0 hqo hop
     go_wp2_with fail
     (with_reducible refine HI1.out.mono ?_)
     rintro e u1 ⟨rfl,hb1⟩
     have HB1:=hdQ hb1
     clear hb1
     go_wp2_with fail
     (with_reducible refine (HNX.out _ HB1.out).mono ?_)
     rintro e u2 ⟨v2,rfl,hs2,hO2⟩
     have HS2:=hdQ hs2
     have HO2:=qh (Only w.heap.size (B::gOf NA) w u2) ((HO.out.sub (Only.of_below HB1.out []) hOz (λx hx=>by cases hx)).sub hO2 (Nat.le_trans hOz HB1.out.size) (λx hx=>.inl (by simp at hx;simp [hx])))
     clear hs2 hO2
     go_wp2_with fail
     (with_reducible refine (HOPR.out _ HS2.out).mono ?_)
     rintro e u3 ⟨rfl,q1,q2⟩
     have Q1:=hdQ q1
     have Q2:=qh (Only w.heap.size (B::gOf NA) w u3) (HO2.out.sub q2 HO2.out.size (λx hx=>by
      rcases List.mem_cons.1 hx with rfl|hx
      ·exact .inl qs
      ·exact (HSb.out x hx).imp (λq=>List.mem_cons_of_mem _ q) id))
     clear q1 q2
     go_wp2_with fail
     exact ⟨rfl,rfl,Q1.out,Q2.out⟩
    | ok b a3 n3 =>
     have hR2:=prs_loop1 (v:=v') hq0 hr
     rw [hR,hqo] at hR2
     rw [hr] at HOPR
     have h6:=hE.2 b a3 n3 hr
     rw [st_opd] at h6
     have HAD:=qh (∀ (wx:World) (NA2:Option Addr) (nc2:Nat),Zbf wx B base TA tc Ts AA ac as_ X a3 d NA2 nc2 n3->Calls Tryz.prog 274 #[.pointer (some ⟨B,0,none⟩),nodeV i1 [] 0 (.slice (some ⟨wx.heap.size,0,none⟩) 2 2)] (wx.alloc (.cells #[.int .i64 v',.int .i64 b] 3)) (IGo B base TA tc Ts AA ac as_ X d NA2 (emit Ts (i1,[],0,[v',b]) a3 n3) (wx.alloc (.cells #[.int .i64 v',.int .i64 b] 3)))) (λwx NA2 nc2 hx =>
      I_add (args:=[v',b]) _ (hx.fresh_ _) qo h6.2 hk.len (Zbu.some_ (Own.new wx 3 #[.int .i64 v',.int .i64 b]) rfl qs) (λy hy=>by
       obtain rfl:y=wx.heap.size:=by simpa [gOf] using hy
       exact λq=>by have:=(hx.2.xlt _ q).1;omega))
     have ha3:=h6.2
     clear hr hE hq0 hqo hop hR
     cases he:emit Ts (i1,[],0,[v',b]) a3 n3 with
     | out=>unfold emit at he;split at he<;>cases he
     | bad o =>
      rw [he] at HAD hR2
      subst hR2
      clear he
      go_wp2_with fail
      (with_reducible refine HI1.out.mono ?_)
      rintro e u1 ⟨rfl,hb1⟩
      have HB1:=hdQ hb1
      clear hb1
      go_wp2_with fail
      (with_reducible refine (HNX.out _ HB1.out).mono ?_)
      rintro e u2 ⟨v2,rfl,hs2,hO2⟩
      have HS2:=hdQ hs2
      have HO2:=qh (Only w.heap.size (B::gOf NA) w u2) ((HO.out.sub (Only.of_below HB1.out []) hOz (λx hx=>by cases hx)).sub hO2 (Nat.le_trans hOz HB1.out.size) (λx hx=>.inl (by simp at hx;simp [hx])))
      clear hs2 hO2
      go_wp2_with fail
      (with_reducible refine (HOPR.out _ HS2.out).mono ?_)
      rintro e u3 ⟨NA2,nc2,rfl,hs3,hO3,hS3⟩
      have HS3:=hdQ hs3
      have HOS:=hdQ (PGo.after HO2.out HSb.out hO3 hS3 (.cells #[.int .i64 v',.int .i64 b] 3))
      clear hs3 hO3 hS3
      go_wp2_with fail
      (with_reducible refine (HAD.out _ _ _ HS3.out).mono ?_)
      rintro e u4 hg
      have HG4:=hdQ (hg.comp HOS.out.1 HOS.out.2)
      obtain ⟨rfl,q1,q2⟩:=hg
      clear q1 q2
      go_wp2_with fail
      exact ⟨rfl,HG4.out⟩
     | ok u a4 n4 =>
      obtain ⟨rfl, -⟩:=emit_at he
      rw [he] at HAD hR2
      clear he
      go_wp2_with fail
      (with_reducible refine HI1.out.mono ?_)
      rintro e u1 ⟨rfl,hb1⟩
      have HB1:=hdQ hb1
      clear hb1
      go_wp2_with fail
      (with_reducible refine (HNX.out _ HB1.out).mono ?_)
      rintro e u2 ⟨v2,rfl,hs2,hO2⟩
      have HS2:=hdQ hs2
      have HO2:=qh (Only w.heap.size (B::gOf NA) w u2) ((HO.out.sub (Only.of_below HB1.out []) hOz (λx hx=>by cases hx)).sub hO2 (Nat.le_trans hOz HB1.out.size) (λx hx=>.inl (by simp at hx;simp [hx])))
      clear hs2 hO2
      go_wp2_with fail
      (with_reducible refine (HOPR.out _ HS2.out).mono ?_)
      rintro e u3 ⟨NA2,nc2,rfl,hs3,hO3,hS3⟩
      have HS3:=hdQ hs3
      have HOS:=hdQ (PGo.after HO2.out HSb.out hO3 hS3 (.cells #[.int .i64 v',.int .i64 b] 3))
      clear hs3 hO3 hS3
      go_wp2_with fail
      (with_reducible refine (HAD.out _ _ _ HS3.out).mono ?_)
      rintro e u4 hg
      have hg2:=hg.comp HOS.out.1 HOS.out.2
      obtain ⟨NA4,nc4,rfl,p1,p2,p3⟩:=hg2
      have HV4:=qh (ChInv B base TA tc Ts AA ac as_ X NA k d add R w (gk-1) u u4) ⟨a4,NA4,nc4,n4,f',p1,ha3,qo,qo,qo,hR2.symm,p2,p3⟩
      clear hg p1 p2 p3
      go_wp2_with fail
      go_roundg (gk-1)
      case measure=>omega
      case rel=>exact ⟨u,rfl,HV4.out⟩
   ·rw [show decide (pk Ts a2=[c0])=false by simp [hp0]] at HI1
    by_cases hp1:pk Ts a2=[c1]
    ·have hin1:=Zc9 hk.ok ha1 (by rw [hp1];simp)
     have HNX:=hdQ (HNX.out (pk_kd hp1 qs))
     rw [show decide (pk Ts a2=[c1])=true by simp [hp1]] at HI2
     have hqo:opS add (pk Ts a2)=i2:=by rw [hop];simp [*]
     have hq0:opS add (pk Ts a2)≠0:=by rw [hqo];assumption
     have hE:=Zbq hk.ok f' (opd add) (d+1) (a2+1) n2 hin1 qo
     have HOPR:=qh (∀ wx,Zbf wx B base TA tc Ts AA ac as_ X (a2+1) d NA1 nc1 n2->Calls Tryz.prog gF #[.pointer (some ⟨B,0,none⟩)] wx (IGo B base TA tc Ts AA ac as_ X d NA1 (prs Ts f' (opd add) (d+1) (a2+1) n2) wx)) (λwx hx=>HOP.out f' qo (a2+1) NA1 nc1 n2 wx hx hin1 qo)
     cases hr:prs Ts f' (opd add) (d+1) (a2+1) n2 with
     | out=>exact absurd hr hE.1
     | bad o =>
      rw [prs_loop2 hq0 hr] at hR
      subst hR
      rw [hr] at HOPR
      clear hr hE hq0 hqo hop
      go_wp2_with fail
      (with_reducible refine HI1.out.mono ?_)
      rintro e u1 ⟨rfl,hb1⟩
      have HB1:=hdQ hb1
      clear hb1
      go_wp2_with fail
      (with_reducible refine (HI2.out _ HB1.out).mono ?_)
      rintro e u1 ⟨rfl,hb2⟩
      have HB2:=hdQ (Below.step hb2 HB1.out HB1.out.size)
      clear hb2 HB1
      have HB1:=HB2
      clear HB2
      go_wp2_with fail
      (with_reducible refine (HNX.out _ HB1.out).mono ?_)
      rintro e u2 ⟨v2,rfl,hs2,hO2⟩
      have HS2:=hdQ hs2
      have HO2:=qh (Only w.heap.size (B::gOf NA) w u2) ((HO.out.sub (Only.of_below HB1.out []) hOz (λx hx=>by cases hx)).sub hO2 (Nat.le_trans hOz HB1.out.size) (λx hx=>.inl (by simp at hx;simp [hx])))
      clear hs2 hO2
      go_wp2_with fail
      (with_reducible refine (HOPR.out _ HS2.out).mono ?_)
      rintro e u3 ⟨rfl,q1,q2⟩
      have Q1:=hdQ q1
      have Q2:=qh (Only w.heap.size (B::gOf NA) w u3) (HO2.out.sub q2 HO2.out.size (λx hx=>by
       rcases List.mem_cons.1 hx with rfl|hx
       ·exact .inl qs
       ·exact (HSb.out x hx).imp (λq=>List.mem_cons_of_mem _ q) id))
      clear q1 q2
      go_wp2_with fail
      exact ⟨rfl,rfl,Q1.out,Q2.out⟩
     | ok b a3 n3 =>
      have hR2:=prs_loop1 (v:=v') hq0 hr
      rw [hR,hqo] at hR2
      rw [hr] at HOPR
      have h6:=hE.2 b a3 n3 hr
      rw [st_opd] at h6
      have HAD:=qh (∀ (wx:World) (NA2:Option Addr) (nc2:Nat),Zbf wx B base TA tc Ts AA ac as_ X a3 d NA2 nc2 n3->Calls Tryz.prog 274 #[.pointer (some ⟨B,0,none⟩),nodeV i2 [] 0 (.slice (some ⟨wx.heap.size,0,none⟩) 2 2)] (wx.alloc (.cells #[.int .i64 v',.int .i64 b] 3)) (IGo B base TA tc Ts AA ac as_ X d NA2 (emit Ts (i2,[],0,[v',b]) a3 n3) (wx.alloc (.cells #[.int .i64 v',.int .i64 b] 3)))) (λwx NA2 nc2 hx =>
       I_add (args:=[v',b]) _ (hx.fresh_ _) qo h6.2 hk.len (Zbu.some_ (Own.new wx 3 #[.int .i64 v',.int .i64 b]) rfl qs) (λy hy=>by
        obtain rfl:y=wx.heap.size:=by simpa [gOf] using hy
        exact λq=>by have:=(hx.2.xlt _ q).1;omega))
      have ha3:=h6.2
      clear hr hE hq0 hqo hop hR
      cases he:emit Ts (i2,[],0,[v',b]) a3 n3 with
      | out=>unfold emit at he;split at he<;>cases he
      | bad o =>
       rw [he] at HAD hR2
       subst hR2
       clear he
       go_wp2_with fail
       (with_reducible refine HI1.out.mono ?_)
       rintro e u1 ⟨rfl,hb1⟩
       have HB1:=hdQ hb1
       clear hb1
       go_wp2_with fail
       (with_reducible refine (HI2.out _ HB1.out).mono ?_)
       rintro e u1 ⟨rfl,hb2⟩
       have HB2:=hdQ (Below.step hb2 HB1.out HB1.out.size)
       clear hb2 HB1
       have HB1:=HB2
       clear HB2
       go_wp2_with fail
       (with_reducible refine (HNX.out _ HB1.out).mono ?_)
       rintro e u2 ⟨v2,rfl,hs2,hO2⟩
       have HS2:=hdQ hs2
       have HO2:=qh (Only w.heap.size (B::gOf NA) w u2) ((HO.out.sub (Only.of_below HB1.out []) hOz (λx hx=>by cases hx)).sub hO2 (Nat.le_trans hOz HB1.out.size) (λx hx=>.inl (by simp at hx;simp [hx])))
       clear hs2 hO2
       go_wp2_with fail
       (with_reducible refine (HOPR.out _ HS2.out).mono ?_)
       rintro e u3 ⟨NA2,nc2,rfl,hs3,hO3,hS3⟩
       have HS3:=hdQ hs3
       have HOS:=hdQ (PGo.after HO2.out HSb.out hO3 hS3 (.cells #[.int .i64 v',.int .i64 b] 3))
       clear hs3 hO3 hS3
       go_wp2_with fail
       (with_reducible refine (HAD.out _ _ _ HS3.out).mono ?_)
       rintro e u4 hg
       have HG4:=hdQ (hg.comp HOS.out.1 HOS.out.2)
       obtain ⟨rfl,q1,q2⟩:=hg
       clear q1 q2
       go_wp2_with fail
       exact ⟨rfl,HG4.out⟩
      | ok u a4 n4 =>
       obtain ⟨rfl, -⟩:=emit_at he
       rw [he] at HAD hR2
       clear he
       go_wp2_with fail
       (with_reducible refine HI1.out.mono ?_)
       rintro e u1 ⟨rfl,hb1⟩
       have HB1:=hdQ hb1
       clear hb1
       go_wp2_with fail
       (with_reducible refine (HI2.out _ HB1.out).mono ?_)
       rintro e u1 ⟨rfl,hb2⟩
       have HB2:=hdQ (Below.step hb2 HB1.out HB1.out.size)
       clear hb2 HB1
       have HB1:=HB2
       clear HB2
       go_wp2_with fail
       (with_reducible refine (HNX.out _ HB1.out).mono ?_)
       rintro e u2 ⟨v2,rfl,hs2,hO2⟩
       have HS2:=hdQ hs2
       have HO2:=qh (Only w.heap.size (B::gOf NA) w u2) ((HO.out.sub (Only.of_below HB1.out []) hOz (λx hx=>by cases hx)).sub hO2 (Nat.le_trans hOz HB1.out.size) (λx hx=>.inl (by simp at hx;simp [hx])))
       clear hs2 hO2
       go_wp2_with fail
       (with_reducible refine (HOPR.out _ HS2.out).mono ?_)
       rintro e u3 ⟨NA2,nc2,rfl,hs3,hO3,hS3⟩
       have HS3:=hdQ hs3
       have HOS:=hdQ (PGo.after HO2.out HSb.out hO3 hS3 (.cells #[.int .i64 v',.int .i64 b] 3))
       clear hs3 hO3 hS3
       go_wp2_with fail
       (with_reducible refine (HAD.out _ _ _ HS3.out).mono ?_)
       rintro e u4 hg
       have hg2:=hg.comp HOS.out.1 HOS.out.2
       obtain ⟨NA4,nc4,rfl,p1,p2,p3⟩:=hg2
       have HV4:=qh (ChInv B base TA tc Ts AA ac as_ X NA k d add R w (gk-1) u u4) ⟨a4,NA4,nc4,n4,f',p1,ha3,qo,qo,qo,hR2.symm,p2,p3⟩
       clear hg p1 p2 p3
       go_wp2_with fail
       go_roundg (gk-1)
       case measure=>omega
       case rel=>exact ⟨u,rfl,HV4.out⟩
    ·rw [show decide (pk Ts a2=[c1])=false by simp [hp1]] at HI2
     have hqo:opS add (pk Ts a2)=0:=by rw [hop];simp [hp0,hp1]
     rw [prs_loop0 hqo] at hR
     subst hR
     clear hqo hop
     go_wp2_with fail
     (with_reducible refine HI1.out.mono ?_)
     rintro e u1 ⟨rfl,hb1⟩
     have HB1:=hdQ hb1
     clear hb1
     go_wp2_with fail
     (with_reducible refine (HI2.out _ HB1.out).mono ?_)
     rintro e u2 ⟨rfl,hb2⟩
     have HB2:=hdQ (Below.step hb2 HB1.out HB1.out.size)
     clear hb2
     go_wp2_with fail
     go_ret
     exact ⟨NA1,nc1,rfl,HS.out.step HB2.out,HO.out.sub (Only.of_below HB2.out []) hOz (λx hx=>by cases hx),HSb.out⟩
theorem opS_add (x:List UInt8):opS true x=if x=[43] then 4 else if x=[45] then 5 else 0:=by unfold opS;rw [if_pos rfl]
theorem opS_mul (x:List UInt8):opS false x=if x=[42] then 6 else if x=[47] then 7 else 0:=by unfold opS;rw [if_neg qd]
set_option maxHeartbeats 2000000 in
theorem I_bin {B base:Nat} {TA:Option Addr} {tc:Nat} {Ts:List Zaq} {AA:Option Addr} {ac:Nat} {as_:List Zaa} {n:Nat} (hk:TokK Ts) (ih:∀ m,m<n->IPc B base TA tc Ts AA ac as_ m) (add:Bool) {d a:Nat} {X:List Nat} {NA:Option Addr} {nc:Nat} {ns:List Zac} (w:World)
  (h:Zbf w B base TA tc Ts AA ac as_ X a d NA nc ns) (ha:a<Ts.length) (hd:d<=64) (hn:mu (.bin add)+4*(Ts.length-a)<=n) :
  Calls Tryz.prog (biF add) #[.pointer (some ⟨B,0,none⟩)] w (IGo B base TA tc Ts AA ac as_ X d NA (prs Ts n (.bin add) (d+1) a ns) w):=by
 have hmf:∀ (fn:Fn) (first cap:Array Value) (w:World),(Instr.makeFunc fn first cap).run Tryz.prog w=.ok (.func fn first cap) w:=λ_ _ _ _=>rfl
 obtain ⟨h1,h2,h3⟩:=mu_opd add
 obtain ⟨k,rfl⟩:∃ k,n=k+1:=⟨n-1,qo⟩
 have HOP:=qh (∀ f,f<=k->∀ (a:Nat) (NA:Option Addr) (nc:Nat) (ns:List Zac) (wx:World),Zbf wx B base TA tc Ts AA ac as_ X a d NA nc ns->a<Ts.length->mu (opd add)+4*(Ts.length-a)<=f ->
   Calls Tryz.prog (opF add) #[.pointer (some ⟨B,0,none⟩)] wx (IGo B base TA tc Ts AA ac as_ X d NA (prs Ts f (opd add) (d+1) a ns) wx)) (λf hf a NA nc ns wx hx hax hnx=>(ih f qo).opd add wx hx hax hd hnx)
 cases add with
 | true =>
  have HC:=qh (Calls Tryz.prog 246 #[.pointer (some ⟨B,0,none⟩),.func (.func 247) #[.pointer (some ⟨B,0,none⟩)] #[],.string ⟨#[43,45]⟩,.int .i64 4,.int .i64 5] w (IGo B base TA tc Ts AA ac as_ X d NA (prs Ts (k+1) (.bin true) (d+1) a ns) w)) (I_chain hk true 43 45 4 5 opS_add qd qd qd w HOP h ha hn)
  clear h ih HOP
  show Calls Tryz.prog 196 _ w _
  cases hr:prs Ts (k+1) (.bin true) (d+1) a ns with
  | out=>rw [hr] at HC;exact absurd hr (Zbq hk.ok (k+1) (.bin true) (d+1) a ns ha hn).1
  | bad o =>
   rw [hr] at HC
   clear hr
   go_enter Tryz.func196,Tryz.ntmps196
   go_wp2_with fail
   (with_reducible refine HC.out.mono ?_)
   rintro e u hg
   have HG:=hdQ hg
   obtain ⟨rfl,q1,q2⟩:=hg
   clear q1 q2
   go_wp2_with fail
   exact ⟨rfl,HG.out⟩
  | ok v a1 n1 =>
   rw [hr] at HC
   clear hr
   go_enter Tryz.func196,Tryz.ntmps196
   go_wp2_with fail
   (with_reducible refine HC.out.mono ?_)
   rintro e u hg
   have HG:=hdQ hg
   obtain ⟨NA',nc',rfl,q1,q2,q3⟩:=hg
   clear q1 q2 q3
   go_wp2_with fail
   go_ret
   exact HG.out
 | false =>
  have HC:=qh (Calls Tryz.prog 246 #[.pointer (some ⟨B,0,none⟩),.func (.func 275) #[.pointer (some ⟨B,0,none⟩)] #[],.string ⟨#[42,47]⟩,.int .i64 6,.int .i64 7] w (IGo B base TA tc Ts AA ac as_ X d NA (prs Ts (k+1) (.bin false) (d+1) a ns) w)) (I_chain hk false 42 47 6 7 opS_mul qd qd qd w HOP h ha hn)
  clear h ih HOP
  show Calls Tryz.prog 247 _ w _
  cases hr:prs Ts (k+1) (.bin false) (d+1) a ns with
  | out=>exact absurd hr (Zbq hk.ok (k+1) (.bin false) (d+1) a ns ha hn).1
  | bad o =>
   rw [hr] at HC
   clear hr hn
   go_enter Tryz.func247,Tryz.ntmps247
   go_wp2_with fail
   (with_reducible refine HC.out.mono ?_)
   rintro e u hg
   have HG:=hdQ hg
   obtain ⟨rfl,q1,q2⟩:=hg
   clear q1 q2
   go_wp2_with fail
   exact ⟨rfl,HG.out⟩
  | ok v a1 n1 =>
   rw [hr] at HC
   clear hr hn
   go_enter Tryz.func247,Tryz.ntmps247
   go_wp2_with fail
   (with_reducible refine HC.out.mono ?_)
   rintro e u hg
   have HG:=hdQ hg
   obtain ⟨NA',nc',rfl,q1,q2,q3⟩:=hg
   clear q1 q2 q3
   go_wp2_with fail
   go_ret
   exact HG.out
theorem Zbf.app {w w':World} {B base:Nat} {TA:Option Addr} {tc:Nat} {Ts:List Zaq} {AA:Option Addr} {ac:Nat} {as_:List Zaa} {X:List Nat} {NA:Option Addr} {nc:Nat} {ns:List Zac} {a:Nat} {dp:Int} {e:TypeId} {size n n' c' base':Nat} {xs:List Value} {PA PA':Option Addr} (h:Zbf w B base TA tc Ts AA ac as_ (gOf PA++X) a dp NA nc ns) (ap:Za5 w base' e size PA n xs PA' n' c' w'):Zbf w' B base TA tc Ts AA ac as_ (gOf PA'++X) a dp NA nc ns :=
 ⟨(ap.2.2.1.block B h.1.lt (by have:=h.2.xlt B;cases PA<;>simp_all [gOf])).trans h.1,h.2.app ap⟩
def CaInv (B base:Nat) (TA:Option Addr) (tc:Nat) (Ts:List Zaq) (AA:Option Addr) (ac:Nat) (as_:List Zaa) (X:List Nat) (NA:Option Addr) (n d:Nat) (name:List UInt8) (R:PR) (w:World) (k:Nat) (l:List Int) (PA:Option Addr) (pc:Nat) (wr:World):Prop :=
 ∃ (a1:Nat) (NA1:Option Addr) (nc1:Nat) (n1:List Zac),Zbf wr B base TA tc Ts AA ac as_ (gOf PA++X) a1 d NA1 nc1 n1/\a1<Ts.length/\l.length<=3/\Zah wr w.heap.size 3 1 PA l.length pc (ints l)/\Only w.heap.size (B::gOf NA) w wr/\(∀ x,x∈gOf NA1->x∈gOf NA∨w.heap.size<=x) /\
  ((pk Ts a1=[41]/\emit Ts (8,name,0,l) (a1+1) n1=R) ∨
   (∃ f s:Nat,prs Ts f (.args name l) (d+1) s n1=R/\s<Ts.length/\4+4*(Ts.length-s)<=f/\f<=n/\f<=k/\pk Ts a1≠[41]/\¬ (l=[]/\pk Ts s=[41])/\((l=[]/\s=a1)∨(l≠[]/\s=a1+1/\pk Ts a1=[44]))))
set_option maxHeartbeats 4000000 in
theorem I_call {B base:Nat} {TA:Option Addr} {tc:Nat} {Ts:List Zaq} {AA:Option Addr} {ac:Nat} {as_:List Zaa} {n:Nat} (hk:TokK Ts) (ih:∀ m,m<n->IPc B base TA tc Ts AA ac as_ m) (name:List UInt8) {d a:Nat} {X:List Nat} {NA:Option Addr} {nc:Nat} {ns:List Zac} (w:World)
  (h:Zbf w B base TA tc Ts AA ac as_ X a d NA nc ns) (ha:a+1<Ts.length) (hd:d<=64) (hp:pk Ts a=[40]) (hn:4+4*(Ts.length-(a+1))<=n) :
  Calls Tryz.prog 290 #[.pointer (some ⟨B,0,none⟩),str name] w (IGo B base TA tc Ts AA ac as_ X d NA (prs Ts n (.args name []) (d+1) (a+1) ns) w):=by
 have hlen:=hk.len
 have hX0:=λx hx=>(h.2.xlt x hx).1
 have HX0:=hdQ hX0
 have HNE:=qh (Calls Tryz.prog 195 #[.pointer (some ⟨B,0,none⟩),.string ⟨#[40]⟩] w (INeed B base TA tc Ts AA ac as_ X a d NA nc ns true w)) (by have:=I_need [40] w h qo hlen qs;rw [show decide (pk Ts a=[40])=true by simp [hp]] at this;exact this)
 obtain ⟨R,hR⟩:=qv (prs Ts n (.args name []) (d+1) (a+1) ns)
 have HST:=qh (∀ u,Only w.heap.size [B] w u->Zbf u B base TA tc Ts AA ac as_ X (a+1) d NA nc ns->CaInv B base TA tc Ts AA ac as_ X NA n d name R w n [] (some ⟨u.heap.size,0,none⟩) 0 (u.alloc (.cells #[] 3))) (λu q1 q2=>by
  have hO:Only w.heap.size (B::gOf NA) w u:=q1.mono' (λx hx=>by simp at hx;simp [hx])
  refine ⟨a+1,NA,nc,ns,q2.fresh_ _,ha,qs,Zah.lit u #[] 0 rfl q1.size (Nat.zero_le _),hO.al q1.size _,λx hx=>.inl hx, ?_⟩
  obtain ⟨m,rfl⟩:∃ m,n=m+1:=⟨n-1,qo⟩
  by_cases hp1:pk Ts (a+1)=[41]
  ·exact .inl ⟨hp1,by rw [<- hR,prs_args0 hp1]⟩
  ·exact .inr ⟨m+1,a+1,hR,ha,hn,Nat.le_refl _,Nat.le_refl _,hp1,λq=>hp1 q.2,.inl ⟨rfl,rfl⟩⟩)
 rw [hR]
 clear hR hX0 h hp
 go_enter Tryz.func290,Tryz.ntmps290
 go_wp2_with fail
 (with_reducible refine HNE.out.mono ?_)
 rintro e u0 ⟨hO0,rfl,hs0⟩
 have HIV:=hdQ (HST.out u0 hO0 hs0)
 have hz0:=hO0.size
 clear hO0 hs0
 go_wp2_with fail
 go_loopg [5] n (λg p wr=>∃ (l:List Int) (PA:Option Addr) (pc:Nat),p=.slice PA l.length pc/\CaInv B base TA tc Ts AA ac as_ X NA n d name R w g l PA pc wr)
 case atStart=>exact ⟨[],_,0,rfl,HIV.out⟩
 case round =>
  obtain ⟨l,PA,pc,rfl,a1,NA1,nc1,n1,hst,ha1,hl3,hg,hO,hS,hc⟩:=hrel
  obtain ⟨wo,rfl⟩:=qe wr
  have HS:=hdQ hst
  have HO:=hdQ hO
  have HSb:=hdQ hS
  have HG:=hdQ hg
  have HGE:=hdQ hg.ge
  have hOz:=hO.size
  have HI:=hdQ (I_is [41] wo hst ha1 qs)
  have HI41:Hid (CB_ Tryz.prog 245 #[.pointer (some ⟨B,0,none⟩),.string ⟨#[41]⟩] wo (.bool (decide (pk Ts a1=[41])))):=HI
  clear HIV HST HNE HI hst hO hS hg
  rcases hc with ⟨hp41,hR⟩|⟨f,s,hR,hs1,hf1,hf2,hf3,hn41,hnl,hls⟩
  ·rw [show decide (pk Ts a1=[41])=true by simp [hp41]] at HI41
   have hin:=Zc9 hk.ok ha1 (by rw [hp41];simp)
   have HNXT:=qh (∀ wx,Below wo.heap.size wo wx->Calls Tryz.prog 193 #[.pointer (some ⟨B,0,none⟩)] wx λe w'=>∃ v,e=.returned v/\Zbf w' B base TA tc Ts AA ac as_ (gOf PA++X) (a1+1) d NA1 nc1 n1/\Only wx.heap.size [B] wx w') (λwx hb=>(I_next wx (HS.out.step hb) ha1 hlen (pk_kd hp41 qs)).mono (λe w' q=>⟨_,q⟩))
   have HADD:=qh (∀ wx,Zbf wx B base TA tc Ts AA ac as_ (gOf PA++X) (a1+1) d NA1 nc1 n1->Zah wx w.heap.size 3 1 PA l.length pc (ints l)->Calls Tryz.prog 274 #[.pointer (some ⟨B,0,none⟩),nodeV 8 name 0 (.slice PA l.length pc)] wx (IGo B base TA tc Ts AA ac as_ X d NA1 R wx)) (λwx q1 q2=>by
    rw [<- hR]
    exact I_add wx q1 qo hin hlen q2.ownS (λy hy q=>by have:=HX0.out y q;have:=q2.ge y hy;omega))
   have HGN:=qh (∀ u1 u2,Below wo.heap.size wo u1->Only u1.heap.size [B] u1 u2->Zah u2 w.heap.size 3 1 PA l.length pc (ints l)) (λu1 u2 q1 q2=>(HG.out.step q1).only q2 (λx hx=>⟨(HG.out.step q1).lt x hx,λr=>by simp at r;exact (HS.out.2.xlt x (by simp [hx])).2 r⟩))
   have hRo:R ≠ .out:=by rw [<- hR];unfold emit;split<;>simp
   clear hp41 hR
   go_wp2_with fail
   (with_reducible refine HI41.out.mono ?_)
   rintro e u1 ⟨rfl,hb1⟩
   have HB1:=hdQ hb1
   clear hb1
   go_wp2_with fail
   (with_reducible refine (HNXT.out _ HB1.out).mono ?_)
   rintro e u2 ⟨v2,rfl,hs2,hO2⟩
   have HS2:=hdQ hs2
   have HG2:=hdQ (HGN.out u1 u2 HB1.out hO2)
   have HO2:=qh (Only w.heap.size (B::gOf NA) w u2) ((HO.out.sub (Only.of_below HB1.out []) hOz (λx hx=>by cases hx)).sub hO2 (Nat.le_trans hOz HB1.out.size) (λx hx=>.inl (by simp at hx;simp [hx])))
   clear hs2 hO2
   cases R with
   | out=>exact absurd rfl hRo
   | bad o =>
    go_wp2_with fail
    (with_reducible refine (HADD.out _ HS2.out HG2.out).mono ?_)
    rintro e u3 hg
    have HG3:=hdQ (hg.comp HO2.out HSb.out)
    obtain ⟨rfl,q1,q2⟩:=hg
    clear q1 q2
    go_wp2_with fail
    exact ⟨rfl,HG3.out⟩
   | ok v a4 n4 =>
    go_wp2_with fail
    (with_reducible refine (HADD.out _ HS2.out HG2.out).mono ?_)
    rintro e u3 hg
    have HG3:=hdQ (hg.comp HO2.out HSb.out)
    obtain ⟨NA',nc',rfl,q1,q2,q3⟩:=hg
    clear q1 q2 q3
    go_wp2_with fail
    go_ret
    exact HG3.out
  ·rw [show decide (pk Ts a1=[41])=false by simp [hn41]] at HI41
   obtain ⟨f',rfl⟩:∃ f',f=f'+1:=⟨f-1,qo⟩
   have HGR:=qh (∀ u2 u3,Zah u2 w.heap.size 3 1 PA l.length pc (ints l)->Zbf u2 B base TA tc Ts AA ac as_ (gOf PA++X) s d NA1 nc1 n1->Only u2.heap.size (B::gOf NA1) u2 u3->Zah u3 w.heap.size 3 1 PA l.length pc (ints l)) (λu2 u3 q0 q1 q2=>q0.only q2 (λx hx=>⟨q0.lt x hx,λr=>by
    rcases List.mem_cons.1 r with r|r
    ·exact (q1.2.xlt x (by simp [hx])).2 r
    ·exact (q1.2.apN x r).2.2 (by simp [hx])⟩))
   have HSX:=qh (∀ x,x∈B::gOf NA1->x∈B::gOf NA∨w.heap.size<=x) (λx hx=>by
    rcases List.mem_cons.1 hx with rfl|hx
    ·exact .inl qs
    ·exact (HSb.out x hx).imp (λq=>List.mem_cons_of_mem _ q) id)
   rcases hls with ⟨hl0,rfl⟩|⟨hl0,rfl,hp44⟩
   ·have hl1:¬ (0:Int)<l.length:=by rw [hl0];simp
    have hl1':l.length=0:=by rw [hl0];rfl
    have h3:¬ l.length=3:=qo
    have e3:((l.length:Int)==3)=false:=by rw [beq_eq_false_iff_ne];omega
    clear hl0 hn41
    have hE:=Zbq hk.ok f' (.bin true) (d+1) s n1 hs1 (by show 3+_<=f';omega)
    have HEX:=qh (∀ wx,Zbf wx B base TA tc Ts AA ac as_ (gOf PA++X) s d NA1 nc1 n1->Calls Tryz.prog 196 #[.pointer (some ⟨B,0,none⟩)] wx (IGo B base TA tc Ts AA ac as_ (gOf PA++X) d NA1 (prs Ts f' (.bin true) (d+1) s n1) wx)) (λwx hx=>I_bin hk (λm hm=>ih m qo) true wx hx hs1 hd (by show 3+_<=f';omega))
    cases hr:prs Ts f' (.bin true) (d+1) s n1 with
    | out=>exact absurd hr hE.1
    | bad o =>
     rw [prs_argsB hnl h3 hr] at hR
     subst hR
     rw [hr] at HEX
     clear hr hE hnl hl1'
     go_wp2_with fail
     (with_reducible refine HI41.out.mono ?_)
     rintro e u2 ⟨rfl,hb2⟩
     have HS2:=hdQ (HS.out.step hb2)
     have HO2:=qh (Only w.heap.size (B::gOf NA) w u2) (HO.out.sub (Only.of_below hb2 []) hOz (λx hx=>by cases hx))
     have HG2:=hdQ (HG.out.step hb2)
     clear hb2
     go_wp2_with fail
     (with_reducible refine (HEX.out _ HS2.out).mono ?_)
     rintro e u3 ⟨rfl,q1,q2⟩
     have Q1:=hdQ q1
     have Q2:=qh (Only w.heap.size (B::gOf NA) w u3) (HO2.out.sub q2 HO2.out.size (HSX.out))
     clear q1 q2
     go_wp2_with fail
     exact ⟨rfl,rfl,Q1.out,Q2.out⟩
    | ok v a3 n3 =>
     rw [hr] at HEX
     have h6:=hE.2 v a3 n3 hr
     have h6':s+1<=a3/\a3<Ts.length:=h6
     have HAPD:=qh (∀ (u2 u3 u4:World) (NA2:Option Addr) (nc2:Nat) (ob:Obj) (A':Option Addr) (c':Nat),Only w.heap.size (B::gOf NA) w u2->Zbf u3 B base TA tc Ts AA ac as_ (gOf PA++X) a3 d NA2 nc2 n3->Only u2.heap.size (B::gOf NA1) u2 u3->(∀ x,x∈gOf NA2->x∈gOf NA1∨u2.heap.size<=x) ->
       Za5 (u3.alloc ob) w.heap.size 3 1 PA l.length (ints l++ints [v]) A' (l.length+1) c' u4->Zbf u4 B base TA tc Ts AA ac as_ (gOf A'++X) a3 d NA2 nc2 n3/\Zah u4 w.heap.size 3 1 A' (l++[v]).length c' (ints (l++[v]))/\Only w.heap.size (B::gOf NA) w u4/\(∀ x,x∈gOf NA2->x∈gOf NA∨w.heap.size<=x)) (λu2 u3 u4 NA2 nc2 ob A' c' q0 q1 q2 q3 gA=>by
      obtain ⟨r1,r2⟩:=PGo.after (B:=B) q0 HSb.out q2 q3 ob
      refine ⟨(q1.alloc ob).app gA, ?_,r1.app gA HGE.out,r2⟩
      have:=gA.1
      rw [show ints l++ints [v]=ints (l++[v]) by simp [ints]] at this
      rw [show (l++[v]).length=l.length+1 by simp]
      exact this)
     have hl2:l.length<=2:=qo
     have HL2:=hdQ hl2
     have HIX:=qh (∀ x,x≠[]->∀ (wx:World) (NA2:Option Addr) (nc2:Nat) (Y:List Nat),Zbf wx B base TA tc Ts AA ac as_ Y a3 d NA2 nc2 n3->CB_ Tryz.prog 245 #[.pointer (some ⟨B,0,none⟩),str x] wx (.bool (decide (pk Ts a3=x)))) (λx hx wx NA2 nc2 Y q=>I_is x wx q h6'.2 hx)
     by_cases hp44:pk Ts a3=[44]
     ·rw [prs_argsN hnl h3 hr hp44] at hR
      have hin:=Zc9 hk.ok h6'.2 (by rw [hp44];simp)
      have HNX:=qh (∀ (u5:World) (NA2:Option Addr) (nc2:Nat) (A':Option Addr) (c':Nat),Zbf u5 B base TA tc Ts AA ac as_ (gOf A'++X) a3 d NA2 nc2 n3->Zah u5 w.heap.size 3 1 A' (l++[v]).length c' (ints (l++[v]))->Only w.heap.size (B::gOf NA) w u5->(∀ x,x∈gOf NA2->x∈gOf NA∨w.heap.size<=x)->CaInv B base TA tc Ts AA ac as_ X NA n d name R w (gk-1) (l++[v]) A' c' u5) (λu5 NA2 nc2 A' c' q1 q2 q3 q4 =>
       ⟨a3,NA2,nc2,n3,q1,h6'.2,by simp;omega,q2,q3,q4,.inr ⟨f',a3+1,hR,hin,qo,qo,qo,(by rw [hp44];decide),(λq=>by simp at q),.inr ⟨qs,rfl,hp44⟩⟩⟩)
      have HI:=qh (∀ (wx:World) (NA2:Option Addr) (nc2:Nat) (Y:List Nat),Zbf wx B base TA tc Ts AA ac as_ Y a3 d NA2 nc2 n3->CB_ Tryz.prog 245 #[.pointer (some ⟨B,0,none⟩),.string ⟨#[44]⟩] wx (.bool true)) (λwx NA2 nc2 Y q=>by have:=HIX.out [44] qs wx NA2 nc2 Y q;rw [show decide (pk Ts a3=[44])=true by simp [hp44]] at this;exact this)
      clear hr hE hnl hl1' hp44 hR HIX
      go_wp2_with fail
      (with_reducible refine HI41.out.mono ?_)
      rintro e u2 ⟨rfl,hb2⟩
      have HS2:=hdQ (HS.out.step hb2)
      have HO2:=qh (Only w.heap.size (B::gOf NA) w u2) (HO.out.sub (Only.of_below hb2 []) hOz (λx hx=>by cases hx))
      have HG2:=hdQ (HG.out.step hb2)
      clear hb2
      go_wp2_with fail
      (with_reducible refine (HEX.out _ HS2.out).mono ?_)
      rintro e u3 ⟨NA2,nc2,rfl,hs3,hO3,hS3⟩
      have HS3:=hdQ hs3
      have HO3:=hdQ hO3
      have HS3b:=hdQ hS3
      have HG3:=hdQ (HGR.out u2 u3 HG2.out HS2.out hO3)
      have hz3:w.heap.size<=u3.heap.size:=Nat.le_trans HO2.out.size hO3.size
      clear hs3 hO3 hS3
      go_wp2_with (first|(at_builtin;refine wpA (w.heap.size) Tryz.underlying24 T.infoInt (ints l) (ints [v]) (Zde _) ?_ ?_ ?_;exact (gwx HG3.out);exact (ltt 1);rintro A' c' w2 gA;obtain ⟨z1,z2,z3,z4⟩:=HAPD.out _ _ _ _ _ _ _ _ HO2.out HS3.out HO3.out HS3b.out gA;have HS4:=hdQ z1;have HG4:=hdQ z2;have HO4:=hdQ z3;have HSb4:=hdQ z4;clear gA z1 z2 z3 z4)|fail)
      (with_reducible refine (HI.out _ _ _ _ HS4.out).mono ?_)
      rintro e u5 ⟨rfl,hb5⟩
      have HV5:=qh (CaInv B base TA tc Ts AA ac as_ X NA n d name R w (gk-1) (l++[v]) A' c' u5) (HNX.out u5 NA2 nc2 A' c' (HS4.out.step hb5) (HG4.out.step hb5) (HO4.out.sub (Only.of_below hb5 []) HO4.out.size (λx hx=>by cases hx)) HSb4.out)
      clear hb5
      go_wp2_with fail
      go_roundg (gk-1)
      case measure=>omega
      case rel=>exact ⟨l++[v],_,_,by rw [List.length_append];rfl,HV5.out⟩
     ·by_cases hp41:pk Ts a3=[41]
      ·rw [prs_argsE hnl h3 hr hp44 hp41] at hR
       have HNX:=qh (∀ (u5:World) (NA2:Option Addr) (nc2:Nat) (A':Option Addr) (c':Nat),Zbf u5 B base TA tc Ts AA ac as_ (gOf A'++X) a3 d NA2 nc2 n3->Zah u5 w.heap.size 3 1 A' (l++[v]).length c' (ints (l++[v]))->Only w.heap.size (B::gOf NA) w u5->(∀ x,x∈gOf NA2->x∈gOf NA∨w.heap.size<=x)->CaInv B base TA tc Ts AA ac as_ X NA n d name R w (gk-1) (l++[v]) A' c' u5) (λu5 NA2 nc2 A' c' q1 q2 q3 q4 =>
        ⟨a3,NA2,nc2,n3,q1,h6'.2,by simp;omega,q2,q3,q4,.inl ⟨hp41,hR⟩⟩)
       have HI:=qh (∀ (wx:World) (NA2:Option Addr) (nc2:Nat) (Y:List Nat),Zbf wx B base TA tc Ts AA ac as_ Y a3 d NA2 nc2 n3->CB_ Tryz.prog 245 #[.pointer (some ⟨B,0,none⟩),.string ⟨#[44]⟩] wx (.bool false)) (λwx NA2 nc2 Y q=>by have:=HIX.out [44] qs wx NA2 nc2 Y q;rw [show decide (pk Ts a3=[44])=false by simp [hp44]] at this;exact this)
       have HI2:=qh (∀ (wx:World) (NA2:Option Addr) (nc2:Nat) (Y:List Nat),Zbf wx B base TA tc Ts AA ac as_ Y a3 d NA2 nc2 n3->CB_ Tryz.prog 245 #[.pointer (some ⟨B,0,none⟩),.string ⟨#[41]⟩] wx (.bool true)) (λwx NA2 nc2 Y q=>by have:=HIX.out [41] qs wx NA2 nc2 Y q;rw [show decide (pk Ts a3=[41])=true by simp [hp41]] at this;exact this)
       clear hr hE hnl hl1' hp44 hp41 hR HIX
       go_wp2_with fail
       (with_reducible refine HI41.out.mono ?_)
       rintro e u2 ⟨rfl,hb2⟩
       have HS2:=hdQ (HS.out.step hb2)
       have HO2:=qh (Only w.heap.size (B::gOf NA) w u2) (HO.out.sub (Only.of_below hb2 []) hOz (λx hx=>by cases hx))
       have HG2:=hdQ (HG.out.step hb2)
       clear hb2
       go_wp2_with fail
       (with_reducible refine (HEX.out _ HS2.out).mono ?_)
       rintro e u3 ⟨NA2,nc2,rfl,hs3,hO3,hS3⟩
       have HS3:=hdQ hs3
       have HO3:=hdQ hO3
       have HS3b:=hdQ hS3
       have HG3:=hdQ (HGR.out u2 u3 HG2.out HS2.out hO3)
       have hz3:w.heap.size<=u3.heap.size:=Nat.le_trans HO2.out.size hO3.size
       clear hs3 hO3 hS3
       go_wp2_with (first|(at_builtin;refine wpA (w.heap.size) Tryz.underlying24 T.infoInt (ints l) (ints [v]) (Zde _) ?_ ?_ ?_;exact (gwx HG3.out);exact (ltt 1);rintro A' c' w2 gA;obtain ⟨z1,z2,z3,z4⟩:=HAPD.out _ _ _ _ _ _ _ _ HO2.out HS3.out HO3.out HS3b.out gA;have HS4:=hdQ z1;have HG4:=hdQ z2;have HO4:=hdQ z3;have HSb4:=hdQ z4;clear gA z1 z2 z3 z4)|fail)
       (with_reducible refine (HI.out _ _ _ _ HS4.out).mono ?_)
       rintro e u5 ⟨rfl,hb5⟩
       have HB5:=hdQ hb5
       clear hb5
       go_wp2_with fail
       (with_reducible refine (HI2.out _ _ _ _ (HS4.out.step HB5.out)).mono ?_)
       rintro e u6 ⟨rfl,hb6⟩
       have HB6:=hdQ (Below.step hb6 HB5.out HB5.out.size)
       have HV5:=qh (CaInv B base TA tc Ts AA ac as_ X NA n d name R w (gk-1) (l++[v]) A' c' u6) (HNX.out u6 NA2 nc2 A' c' (HS4.out.step HB6.out) (HG4.out.step HB6.out) (HO4.out.sub (Only.of_below HB6.out []) HO4.out.size (λx hx=>by cases hx)) HSb4.out)
       clear hb6
       go_wp2_with fail
       go_roundg (gk-1)
       case measure=>omega
       case rel=>exact ⟨l++[v],_,_,by rw [List.length_append];rfl,HV5.out⟩
      ·rw [prs_argsX hnl h3 hr hp44 hp41] at hR
       subst hR
       have HI:=qh (∀ (wx:World) (NA2:Option Addr) (nc2:Nat) (Y:List Nat),Zbf wx B base TA tc Ts AA ac as_ Y a3 d NA2 nc2 n3->CB_ Tryz.prog 245 #[.pointer (some ⟨B,0,none⟩),.string ⟨#[44]⟩] wx (.bool false)) (λwx NA2 nc2 Y q=>by have:=HIX.out [44] qs wx NA2 nc2 Y q;rw [show decide (pk Ts a3=[44])=false by simp [hp44]] at this;exact this)
       have HI2:=qh (∀ (wx:World) (NA2:Option Addr) (nc2:Nat) (Y:List Nat),Zbf wx B base TA tc Ts AA ac as_ Y a3 d NA2 nc2 n3->CB_ Tryz.prog 245 #[.pointer (some ⟨B,0,none⟩),.string ⟨#[41]⟩] wx (.bool false)) (λwx NA2 nc2 Y q=>by have:=HIX.out [41] qs wx NA2 nc2 Y q;rw [show decide (pk Ts a3=[41])=false by simp [hp41]] at this;exact this)
       have HNW:=qh (∀ (wx:World) (NA2:Option Addr) (nc2:Nat) (Y:List Nat),Zbf wx B base TA tc Ts AA ac as_ Y a3 d NA2 nc2 n3->CB_ Tryz.prog 192 #[.pointer (some ⟨B,0,none⟩)] wx (tkV Ts a3)) (λwx NA2 nc2 Y q=>I_now wx q h6'.2)
       have HRJ:=qh (∀ wx,Calls Tryz.prog 194 #[.pointer (some ⟨B,0,none⟩),tkV Ts a3] wx λe w'=>e=.panicked (rej (of_ Ts a3))/\Below wx.heap.size wx w') (λwx=>Zfa _ _ _ _ _ wx)
       clear hr hE hnl hl1' hp44 hp41 HIX
       generalize htk:tkV Ts a3=tv at HNW HRJ
       clear htk
       generalize of_ Ts a3=off at *
       go_wp2_with fail
       (with_reducible refine HI41.out.mono ?_)
       rintro e u2 ⟨rfl,hb2⟩
       have HS2:=hdQ (HS.out.step hb2)
       have HO2:=qh (Only w.heap.size (B::gOf NA) w u2) (HO.out.sub (Only.of_below hb2 []) hOz (λx hx=>by cases hx))
       have HG2:=hdQ (HG.out.step hb2)
       clear hb2
       go_wp2_with fail
       (with_reducible refine (HEX.out _ HS2.out).mono ?_)
       rintro e u3 ⟨NA2,nc2,rfl,hs3,hO3,hS3⟩
       have HS3:=hdQ hs3
       have HO3:=hdQ hO3
       have HS3b:=hdQ hS3
       have HG3:=hdQ (HGR.out u2 u3 HG2.out HS2.out hO3)
       have hz3:w.heap.size<=u3.heap.size:=Nat.le_trans HO2.out.size hO3.size
       clear hs3 hO3 hS3
       go_wp2_with (first|(at_builtin;refine wpA (w.heap.size) Tryz.underlying24 T.infoInt (ints l) (ints [v]) (Zde _) ?_ ?_ ?_;exact (gwx HG3.out);exact (ltt 1);rintro A' c' w2 gA;obtain ⟨z1,z2,z3,z4⟩:=HAPD.out _ _ _ _ _ _ _ _ HO2.out HS3.out HO3.out HS3b.out gA;have HS4:=hdQ z1;have HG4:=hdQ z2;have HO4:=hdQ z3;have HSb4:=hdQ z4;clear gA z1 z2 z3 z4)|fail)
       (with_reducible refine (HI.out _ _ _ _ HS4.out).mono ?_)
       rintro e u5 ⟨rfl,hb5⟩
       have HB5:=hdQ hb5
       clear hb5
       go_wp2_with fail
       (with_reducible refine (HI2.out _ _ _ _ (HS4.out.step HB5.out)).mono ?_)
       rintro e u6 ⟨rfl,hb6⟩
       have HB6:=hdQ (Below.step hb6 HB5.out HB5.out.size)
       clear hb6
       go_wp2_with fail
       (with_reducible refine (HNW.out _ _ _ _ (HS4.out.step HB6.out)).mono ?_)
       rintro e u7 ⟨rfl,hb7⟩
       have HB7:=hdQ (Below.step hb7 HB6.out HB6.out.size)
       clear hb7
       go_wp2_with fail
       (with_reducible refine (HRJ.out _).mono ?_)
       rintro e u8 ⟨rfl,hb8⟩
       have HB8:=hdQ (Below.step hb8 HB7.out HB7.out.size)
       clear hb8
       go_wp2_with fail
       exact ⟨rfl,rfl,(HS4.out.step HB8.out).ownD,HO4.out.sub (Only.of_below HB8.out []) HO4.out.size (λx hx=>by cases hx)⟩
   ·have hl1:(0:Int)<l.length:=by have:l.length≠0:=λq=>hl0 (List.length_eq_zero_iff.1 q);omega
    have HND:=qh (∀ wx,Below wo.heap.size wo wx->Calls Tryz.prog 195 #[.pointer (some ⟨B,0,none⟩),.string ⟨#[44]⟩] wx (INeed B base TA tc Ts AA ac as_ (gOf PA++X) a1 d NA1 nc1 n1 true wx)) (λwx hb=>by have:=I_need [44] wx (HS.out.step hb) ha1 hlen qs;rw [show decide (pk Ts a1=[44])=true by simp [hp44]] at this;exact this)
    have HG1:=qh (∀ u1 u2,Below wo.heap.size wo u1->Only u1.heap.size [B] u1 u2->Zah u2 w.heap.size 3 1 PA l.length pc (ints l)) (λu1 u2 q1 q2=>(HG.out.step q1).only q2 (λx hx=>⟨(HG.out.step q1).lt x hx,λr=>by simp at r;exact (HS.out.2.xlt x (by simp [hx])).2 r⟩))
    clear hl0 hp44 hn41
    by_cases h3:l.length=3
    ·have e3:((l.length:Int)==3)=true:=by rw [h3];rfl
     rw [prs_args3 hnl h3] at hR
     subst hR
     have HNW:=qh (∀ wx,Zbf wx B base TA tc Ts AA ac as_ (gOf PA++X) (a1+1) d NA1 nc1 n1->CB_ Tryz.prog 192 #[.pointer (some ⟨B,0,none⟩)] wx (tkV Ts (a1+1))) (λwx q=>I_now wx q hs1)
     have HRJ:=qh (∀ wx,Calls Tryz.prog 194 #[.pointer (some ⟨B,0,none⟩),tkV Ts (a1+1)] wx λe w'=>e=.panicked (rej (of_ Ts (a1+1)))/\Below wx.heap.size wx w') (λwx=>Zfa _ _ _ _ _ wx)
     clear hnl h3
     generalize htk:tkV Ts (a1+1)=tv at HNW HRJ
     clear htk
     generalize of_ Ts (a1+1)=off at *
     go_wp2_with fail
     (with_reducible refine HI41.out.mono ?_)
     rintro e u1 ⟨rfl,hb1⟩
     have HB1:=hdQ hb1
     clear hb1
     go_wp2_with fail
     (with_reducible refine (HND.out _ HB1.out).mono ?_)
     rintro e u2 ⟨hO2,rfl,hs2⟩
     have HS2:=hdQ hs2
     have HO2:=qh (Only w.heap.size (B::gOf NA) w u2) ((HO.out.sub (Only.of_below HB1.out []) hOz (λx hx=>by cases hx)).sub hO2 (Nat.le_trans hOz HB1.out.size) (λx hx=>.inl (by simp at hx;simp [hx])))
     have HG2:=qh (Zah u2 w.heap.size 3 1 PA l.length pc (ints l)) (HG1.out u1 u2 HB1.out hO2)
     clear hs2 hO2
     go_wp2_with fail
     (with_reducible refine (HNW.out _ HS2.out).mono ?_)
     rintro e u3 ⟨rfl,hb3⟩
     have HB3:=hdQ hb3
     clear hb3
     go_wp2_with fail
     (with_reducible refine (HRJ.out _).mono ?_)
     rintro e u4 ⟨rfl,hb4⟩
     have HB4:=hdQ (Below.step hb4 HB3.out HB3.out.size)
     clear hb4
     go_wp2_with fail
     exact ⟨rfl,rfl,(HS2.out.step HB4.out).ownD,HO2.out.sub (Only.of_below HB4.out []) HO2.out.size (λx hx=>by cases hx)⟩
    ·have e3:((l.length:Int)==3)=false:=by rw [beq_eq_false_iff_ne];omega
     obtain ⟨s,hse⟩:=qv (a1+1)
     rw [hse] at hR hs1 hf1 hnl HGR
     have HND:=qh (∀ wx,Below wo.heap.size wo wx->Calls Tryz.prog 195 #[.pointer (some ⟨B,0,none⟩),.string ⟨#[44]⟩] wx λe w'=>Only wx.heap.size [B] wx w'/\e=.returned (.tuple #[])/\Zbf w' B base TA tc Ts AA ac as_ (gOf PA++X) s d NA1 nc1 n1) (λwx hb=>by rw [<- hse];exact HND.out wx hb)
     clear hse
     have hE:=Zbq hk.ok f' (.bin true) (d+1) s n1 hs1 (by show 3+_<=f';omega)
     have HEX:=qh (∀ wx,Zbf wx B base TA tc Ts AA ac as_ (gOf PA++X) s d NA1 nc1 n1->Calls Tryz.prog 196 #[.pointer (some ⟨B,0,none⟩)] wx (IGo B base TA tc Ts AA ac as_ (gOf PA++X) d NA1 (prs Ts f' (.bin true) (d+1) s n1) wx)) (λwx hx=>I_bin hk (λm hm=>ih m qo) true wx hx hs1 hd (by show 3+_<=f';omega))
     cases hr:prs Ts f' (.bin true) (d+1) s n1 with
     | out=>exact absurd hr hE.1
     | bad o =>
      rw [prs_argsB hnl h3 hr] at hR
      subst hR
      rw [hr] at HEX
      clear hr hE hnl
      go_wp2_with fail
      (with_reducible refine HI41.out.mono ?_)
      rintro e u1 ⟨rfl,hb1⟩
      have HB1:=hdQ hb1
      clear hb1
      go_wp2_with fail
      (with_reducible refine (HND.out _ HB1.out).mono ?_)
      rintro e u2 ⟨hO2,rfl,hs2⟩
      have HS2:=hdQ hs2
      have HO2:=qh (Only w.heap.size (B::gOf NA) w u2) ((HO.out.sub (Only.of_below HB1.out []) hOz (λx hx=>by cases hx)).sub hO2 (Nat.le_trans hOz HB1.out.size) (λx hx=>.inl (by simp at hx;simp [hx])))
      have HG2:=qh (Zah u2 w.heap.size 3 1 PA l.length pc (ints l)) (HG1.out u1 u2 HB1.out hO2)
      clear hs2 hO2
      go_wp2_with fail
      (with_reducible refine (HEX.out _ HS2.out).mono ?_)
      rintro e u3 ⟨rfl,q1,q2⟩
      have Q1:=hdQ q1
      have Q2:=qh (Only w.heap.size (B::gOf NA) w u3) (HO2.out.sub q2 HO2.out.size (HSX.out))
      clear q1 q2
      go_wp2_with fail
      exact ⟨rfl,rfl,Q1.out,Q2.out⟩
     | ok v a3 n3 =>
      rw [hr] at HEX
      have h6:=hE.2 v a3 n3 hr
      have h6':s+1<=a3/\a3<Ts.length:=h6
      have HAPD:=qh (∀ (u2 u3 u4:World) (NA2:Option Addr) (nc2:Nat) (ob:Obj) (A':Option Addr) (c':Nat),Only w.heap.size (B::gOf NA) w u2->Zbf u3 B base TA tc Ts AA ac as_ (gOf PA++X) a3 d NA2 nc2 n3->Only u2.heap.size (B::gOf NA1) u2 u3->(∀ x,x∈gOf NA2->x∈gOf NA1∨u2.heap.size<=x) ->
        Za5 (u3.alloc ob) w.heap.size 3 1 PA l.length (ints l++ints [v]) A' (l.length+1) c' u4->Zbf u4 B base TA tc Ts AA ac as_ (gOf A'++X) a3 d NA2 nc2 n3/\Zah u4 w.heap.size 3 1 A' (l++[v]).length c' (ints (l++[v]))/\Only w.heap.size (B::gOf NA) w u4/\(∀ x,x∈gOf NA2->x∈gOf NA∨w.heap.size<=x)) (λu2 u3 u4 NA2 nc2 ob A' c' q0 q1 q2 q3 gA=>by
       obtain ⟨r1,r2⟩:=PGo.after (B:=B) q0 HSb.out q2 q3 ob
       refine ⟨(q1.alloc ob).app gA, ?_,r1.app gA HGE.out,r2⟩
       have:=gA.1
       rw [show ints l++ints [v]=ints (l++[v]) by simp [ints]] at this
       rw [show (l++[v]).length=l.length+1 by simp]
       exact this)
      have hl2:l.length<=2:=qo
      have HL2:=hdQ hl2
      have HIX:=qh (∀ x,x≠[]->∀ (wx:World) (NA2:Option Addr) (nc2:Nat) (Y:List Nat),Zbf wx B base TA tc Ts AA ac as_ Y a3 d NA2 nc2 n3->CB_ Tryz.prog 245 #[.pointer (some ⟨B,0,none⟩),str x] wx (.bool (decide (pk Ts a3=x)))) (λx hx wx NA2 nc2 Y q=>I_is x wx q h6'.2 hx)
      by_cases hp44:pk Ts a3=[44]
      ·rw [prs_argsN hnl h3 hr hp44] at hR
       have hin:=Zc9 hk.ok h6'.2 (by rw [hp44];simp)
       have HNX:=qh (∀ (u5:World) (NA2:Option Addr) (nc2:Nat) (A':Option Addr) (c':Nat),Zbf u5 B base TA tc Ts AA ac as_ (gOf A'++X) a3 d NA2 nc2 n3->Zah u5 w.heap.size 3 1 A' (l++[v]).length c' (ints (l++[v]))->Only w.heap.size (B::gOf NA) w u5->(∀ x,x∈gOf NA2->x∈gOf NA∨w.heap.size<=x)->CaInv B base TA tc Ts AA ac as_ X NA n d name R w (gk-1) (l++[v]) A' c' u5) (λu5 NA2 nc2 A' c' q1 q2 q3 q4 =>
        ⟨a3,NA2,nc2,n3,q1,h6'.2,by simp;omega,q2,q3,q4,.inr ⟨f',a3+1,hR,hin,qo,qo,qo,(by rw [hp44];decide),(λq=>by simp at q),.inr ⟨qs,rfl,hp44⟩⟩⟩)
       have HI:=qh (∀ (wx:World) (NA2:Option Addr) (nc2:Nat) (Y:List Nat),Zbf wx B base TA tc Ts AA ac as_ Y a3 d NA2 nc2 n3->CB_ Tryz.prog 245 #[.pointer (some ⟨B,0,none⟩),.string ⟨#[44]⟩] wx (.bool true)) (λwx NA2 nc2 Y q=>by have:=HIX.out [44] qs wx NA2 nc2 Y q;rw [show decide (pk Ts a3=[44])=true by simp [hp44]] at this;exact this)
       clear hr hE hnl hp44 hR HIX
       go_wp2_with fail
       (with_reducible refine HI41.out.mono ?_)
       rintro e u1 ⟨rfl,hb1⟩
       have HB1:=hdQ hb1
       clear hb1
       go_wp2_with fail
       (with_reducible refine (HND.out _ HB1.out).mono ?_)
       rintro e u2 ⟨hO2,rfl,hs2⟩
       have HS2:=hdQ hs2
       have HO2:=qh (Only w.heap.size (B::gOf NA) w u2) ((HO.out.sub (Only.of_below HB1.out []) hOz (λx hx=>by cases hx)).sub hO2 (Nat.le_trans hOz HB1.out.size) (λx hx=>.inl (by simp at hx;simp [hx])))
       have HG2:=qh (Zah u2 w.heap.size 3 1 PA l.length pc (ints l)) (HG1.out u1 u2 HB1.out hO2)
       clear hs2 hO2
       go_wp2_with fail
       (with_reducible refine (HEX.out _ HS2.out).mono ?_)
       rintro e u3 ⟨NA2,nc2,rfl,hs3,hO3,hS3⟩
       have HS3:=hdQ hs3
       have HO3:=hdQ hO3
       have HS3b:=hdQ hS3
       have HG3:=hdQ (HGR.out u2 u3 HG2.out HS2.out hO3)
       have hz3:w.heap.size<=u3.heap.size:=Nat.le_trans HO2.out.size hO3.size
       clear hs3 hO3 hS3
       go_wp2_with (first|(at_builtin;refine wpA (w.heap.size) Tryz.underlying24 T.infoInt (ints l) (ints [v]) (Zde _) ?_ ?_ ?_;exact (gwx HG3.out);exact (ltt 1);rintro A' c' w2 gA;obtain ⟨z1,z2,z3,z4⟩:=HAPD.out _ _ _ _ _ _ _ _ HO2.out HS3.out HO3.out HS3b.out gA;have HS4:=hdQ z1;have HG4:=hdQ z2;have HO4:=hdQ z3;have HSb4:=hdQ z4;clear gA z1 z2 z3 z4)|fail)
       (with_reducible refine (HI.out _ _ _ _ HS4.out).mono ?_)
       rintro e u5 ⟨rfl,hb5⟩
       have HV5:=qh (CaInv B base TA tc Ts AA ac as_ X NA n d name R w (gk-1) (l++[v]) A' c' u5) (HNX.out u5 NA2 nc2 A' c' (HS4.out.step hb5) (HG4.out.step hb5) (HO4.out.sub (Only.of_below hb5 []) HO4.out.size (λx hx=>by cases hx)) HSb4.out)
       clear hb5
       go_wp2_with fail
       go_roundg (gk-1)
       case measure=>omega
       case rel=>exact ⟨l++[v],_,_,by rw [List.length_append];rfl,HV5.out⟩
      ·by_cases hp41:pk Ts a3=[41]
       ·rw [prs_argsE hnl h3 hr hp44 hp41] at hR
        have HNX:=qh (∀ (u5:World) (NA2:Option Addr) (nc2:Nat) (A':Option Addr) (c':Nat),Zbf u5 B base TA tc Ts AA ac as_ (gOf A'++X) a3 d NA2 nc2 n3->Zah u5 w.heap.size 3 1 A' (l++[v]).length c' (ints (l++[v]))->Only w.heap.size (B::gOf NA) w u5->(∀ x,x∈gOf NA2->x∈gOf NA∨w.heap.size<=x)->CaInv B base TA tc Ts AA ac as_ X NA n d name R w (gk-1) (l++[v]) A' c' u5) (λu5 NA2 nc2 A' c' q1 q2 q3 q4 =>
         ⟨a3,NA2,nc2,n3,q1,h6'.2,by simp;omega,q2,q3,q4,.inl ⟨hp41,hR⟩⟩)
        have HI:=qh (∀ (wx:World) (NA2:Option Addr) (nc2:Nat) (Y:List Nat),Zbf wx B base TA tc Ts AA ac as_ Y a3 d NA2 nc2 n3->CB_ Tryz.prog 245 #[.pointer (some ⟨B,0,none⟩),.string ⟨#[44]⟩] wx (.bool false)) (λwx NA2 nc2 Y q=>by have:=HIX.out [44] qs wx NA2 nc2 Y q;rw [show decide (pk Ts a3=[44])=false by simp [hp44]] at this;exact this)
        have HI2:=qh (∀ (wx:World) (NA2:Option Addr) (nc2:Nat) (Y:List Nat),Zbf wx B base TA tc Ts AA ac as_ Y a3 d NA2 nc2 n3->CB_ Tryz.prog 245 #[.pointer (some ⟨B,0,none⟩),.string ⟨#[41]⟩] wx (.bool true)) (λwx NA2 nc2 Y q=>by have:=HIX.out [41] qs wx NA2 nc2 Y q;rw [show decide (pk Ts a3=[41])=true by simp [hp41]] at this;exact this)
        clear hr hE hnl hp44 hp41 hR HIX
        go_wp2_with fail
        (with_reducible refine HI41.out.mono ?_)
        rintro e u1 ⟨rfl,hb1⟩
        have HB1:=hdQ hb1
        clear hb1
        go_wp2_with fail
        (with_reducible refine (HND.out _ HB1.out).mono ?_)
        rintro e u2 ⟨hO2,rfl,hs2⟩
        have HS2:=hdQ hs2
        have HO2:=qh (Only w.heap.size (B::gOf NA) w u2) ((HO.out.sub (Only.of_below HB1.out []) hOz (λx hx=>by cases hx)).sub hO2 (Nat.le_trans hOz HB1.out.size) (λx hx=>.inl (by simp at hx;simp [hx])))
        have HG2:=qh (Zah u2 w.heap.size 3 1 PA l.length pc (ints l)) (HG1.out u1 u2 HB1.out hO2)
        clear hs2 hO2
        go_wp2_with fail
        (with_reducible refine (HEX.out _ HS2.out).mono ?_)
        rintro e u3 ⟨NA2,nc2,rfl,hs3,hO3,hS3⟩
        have HS3:=hdQ hs3
        have HO3:=hdQ hO3
        have HS3b:=hdQ hS3
        have HG3:=hdQ (HGR.out u2 u3 HG2.out HS2.out hO3)
        have hz3:w.heap.size<=u3.heap.size:=Nat.le_trans HO2.out.size hO3.size
        clear hs3 hO3 hS3
        go_wp2_with (first|(at_builtin;refine wpA (w.heap.size) Tryz.underlying24 T.infoInt (ints l) (ints [v]) (Zde _) ?_ ?_ ?_;exact (gwx HG3.out);exact (ltt 1);rintro A' c' w2 gA;obtain ⟨z1,z2,z3,z4⟩:=HAPD.out _ _ _ _ _ _ _ _ HO2.out HS3.out HO3.out HS3b.out gA;have HS4:=hdQ z1;have HG4:=hdQ z2;have HO4:=hdQ z3;have HSb4:=hdQ z4;clear gA z1 z2 z3 z4)|fail)
        (with_reducible refine (HI.out _ _ _ _ HS4.out).mono ?_)
        rintro e u5 ⟨rfl,hb5⟩
        have HB5:=hdQ hb5
        clear hb5
        go_wp2_with fail
        (with_reducible refine (HI2.out _ _ _ _ (HS4.out.step HB5.out)).mono ?_)
        rintro e u6 ⟨rfl,hb6⟩
        have HB6:=hdQ (Below.step hb6 HB5.out HB5.out.size)
        have HV5:=qh (CaInv B base TA tc Ts AA ac as_ X NA n d name R w (gk-1) (l++[v]) A' c' u6) (HNX.out u6 NA2 nc2 A' c' (HS4.out.step HB6.out) (HG4.out.step HB6.out) (HO4.out.sub (Only.of_below HB6.out []) HO4.out.size (λx hx=>by cases hx)) HSb4.out)
        clear hb6
        go_wp2_with fail
        go_roundg (gk-1)
        case measure=>omega
        case rel=>exact ⟨l++[v],_,_,by rw [List.length_append];rfl,HV5.out⟩
       ·rw [prs_argsX hnl h3 hr hp44 hp41] at hR
        subst hR
        have HI:=qh (∀ (wx:World) (NA2:Option Addr) (nc2:Nat) (Y:List Nat),Zbf wx B base TA tc Ts AA ac as_ Y a3 d NA2 nc2 n3->CB_ Tryz.prog 245 #[.pointer (some ⟨B,0,none⟩),.string ⟨#[44]⟩] wx (.bool false)) (λwx NA2 nc2 Y q=>by have:=HIX.out [44] qs wx NA2 nc2 Y q;rw [show decide (pk Ts a3=[44])=false by simp [hp44]] at this;exact this)
        have HI2:=qh (∀ (wx:World) (NA2:Option Addr) (nc2:Nat) (Y:List Nat),Zbf wx B base TA tc Ts AA ac as_ Y a3 d NA2 nc2 n3->CB_ Tryz.prog 245 #[.pointer (some ⟨B,0,none⟩),.string ⟨#[41]⟩] wx (.bool false)) (λwx NA2 nc2 Y q=>by have:=HIX.out [41] qs wx NA2 nc2 Y q;rw [show decide (pk Ts a3=[41])=false by simp [hp41]] at this;exact this)
        have HNW:=qh (∀ (wx:World) (NA2:Option Addr) (nc2:Nat) (Y:List Nat),Zbf wx B base TA tc Ts AA ac as_ Y a3 d NA2 nc2 n3->CB_ Tryz.prog 192 #[.pointer (some ⟨B,0,none⟩)] wx (tkV Ts a3)) (λwx NA2 nc2 Y q=>I_now wx q h6'.2)
        have HRJ:=qh (∀ wx,Calls Tryz.prog 194 #[.pointer (some ⟨B,0,none⟩),tkV Ts a3] wx λe w'=>e=.panicked (rej (of_ Ts a3))/\Below wx.heap.size wx w') (λwx=>Zfa _ _ _ _ _ wx)
        clear hr hE hnl hp44 hp41 HIX
        generalize htk:tkV Ts a3=tv at HNW HRJ
        clear htk
        generalize of_ Ts a3=off at *
        go_wp2_with fail
        (with_reducible refine HI41.out.mono ?_)
        rintro e u1 ⟨rfl,hb1⟩
        have HB1:=hdQ hb1
        clear hb1
        go_wp2_with fail
        (with_reducible refine (HND.out _ HB1.out).mono ?_)
        rintro e u2 ⟨hO2,rfl,hs2⟩
        have HS2:=hdQ hs2
        have HO2:=qh (Only w.heap.size (B::gOf NA) w u2) ((HO.out.sub (Only.of_below HB1.out []) hOz (λx hx=>by cases hx)).sub hO2 (Nat.le_trans hOz HB1.out.size) (λx hx=>.inl (by simp at hx;simp [hx])))
        have HG2:=qh (Zah u2 w.heap.size 3 1 PA l.length pc (ints l)) (HG1.out u1 u2 HB1.out hO2)
        clear hs2 hO2
        go_wp2_with fail
        (with_reducible refine (HEX.out _ HS2.out).mono ?_)
        rintro e u3 ⟨NA2,nc2,rfl,hs3,hO3,hS3⟩
        have HS3:=hdQ hs3
        have HO3:=hdQ hO3
        have HS3b:=hdQ hS3
        have HG3:=hdQ (HGR.out u2 u3 HG2.out HS2.out hO3)
        have hz3:w.heap.size<=u3.heap.size:=Nat.le_trans HO2.out.size hO3.size
        clear hs3 hO3 hS3
        go_wp2_with (first|(at_builtin;refine wpA (w.heap.size) Tryz.underlying24 T.infoInt (ints l) (ints [v]) (Zde _) ?_ ?_ ?_;exact (gwx HG3.out);exact (ltt 1);rintro A' c' w2 gA;obtain ⟨z1,z2,z3,z4⟩:=HAPD.out _ _ _ _ _ _ _ _ HO2.out HS3.out HO3.out HS3b.out gA;have HS4:=hdQ z1;have HG4:=hdQ z2;have HO4:=hdQ z3;have HSb4:=hdQ z4;clear gA z1 z2 z3 z4)|fail)
        (with_reducible refine (HI.out _ _ _ _ HS4.out).mono ?_)
        rintro e u5 ⟨rfl,hb5⟩
        have HB5:=hdQ hb5
        clear hb5
        go_wp2_with fail
        (with_reducible refine (HI2.out _ _ _ _ (HS4.out.step HB5.out)).mono ?_)
        rintro e u6 ⟨rfl,hb6⟩
        have HB6:=hdQ (Below.step hb6 HB5.out HB5.out.size)
        clear hb6
        go_wp2_with fail
        (with_reducible refine (HNW.out _ _ _ _ (HS4.out.step HB6.out)).mono ?_)
        rintro e u7 ⟨rfl,hb7⟩
        have HB7:=hdQ (Below.step hb7 HB6.out HB6.out.size)
        clear hb7
        go_wp2_with fail
        (with_reducible refine (HRJ.out _).mono ?_)
        rintro e u8 ⟨rfl,hb8⟩
        have HB8:=hdQ (Below.step hb8 HB7.out HB7.out.size)
        clear hb8
        go_wp2_with fail
        exact ⟨rfl,rfl,(HS4.out.step HB8.out).ownD,HO4.out.sub (Only.of_below HB8.out []) HO4.out.size (λx hx=>by cases hx)⟩
theorem I_factorD {g B:Nat} {d:Int} (m:FrameMode) (w:World) (h1:w.cell? ⟨g,0,none⟩=some (.pointer (some ⟨B,0,none⟩))) (h2:w.cell? ⟨B,2,none⟩=some (.int .i64 d)) (h3:w.frozen? ⟨B,2,none⟩=false) :
  CallsD Tryz.prog 289 #[.pointer (some ⟨g,0,none⟩)] m w λe m' w'=>m'=m/\(e=.returned (.tuple #[])/\w.setCell ⟨B,2,none⟩ (.int .i64 (IntKind.i64.wrap (d-1)))=w'):=by
 go_enter_d Tryz.func289,Tryz.ntmps289
 go_wp2_with fail
 go_end0
 refine ⟨rfl, ?_⟩
 congr 2
 exact IntWalk.i64_left _
def CalmD (Q:Exit->Act->World->Prop) (R:Ending->World->Prop):Exit->Act->World->Prop
 | .panic c,a,w=>a.defers=[]/\R (.panicked c) w
 | e,a,w=>Q e a w
theorem wp_region_calm {P:Program} {id:Nat} {ops:Array Oper} {b:Bool} {Q:Exit->Act->World->Prop} {R:Ending->World->Prop} {a:Act} {w:World} (hQ:∀ c a w,a.defers=[]->R (.panicked c) w->Q (.panic c) a w) (h:(Code.region id ops b).wp P (CalmD Q R) a w):(Code.region id ops b).wp P Q a w :=
 Code.wp_mono (λe a w h=>by cases e<;>first|exact h|exact hQ _ _ _ h.1 h.2) h
def FSt (w0:World) (B base:Nat) (TA:Option Addr) (tc:Nat) (Ts:List Zaq) (AA:Option Addr) (ac:Nat) (as_:List Zaa) (X:List Nat) (NA:Option Addr) (d:Nat) (w:World) (a:Nat) (NA':Option Addr) (nc:Nat) (ns:List Zac):Prop :=
 Zbf w B base TA tc Ts AA ac as_ (gOf (some ⟨w0.heap.size,0,none⟩)++X) a ((d+1:Nat):Int) NA' nc ns/\Own w w0.heap.size 172 [.pointer (some ⟨B,0,none⟩)]/\Only w0.heap.size (B::gOf NA) w0 w/\(∀ x,x∈gOf NA'->x∈gOf NA∨w0.heap.size<=x)
def FD (w0:World) (B:Nat) (NA:Option Addr) (w:World):Prop:=OwnD w B/\Own w w0.heap.size 172 [.pointer (some ⟨B,0,none⟩)]/\Only w0.heap.size (B::gOf NA) w0 w/\B<w0.heap.size
section
variable {w0 w w':World} {B base:Nat} {TA:Option Addr} {tc:Nat} {Ts:List Zaq} {AA:Option Addr} {ac:Nat} {as_:List Zaa} {X:List Nat} {NA NA1 NA2:Option Addr} {nc nc2:Nat} {ns ns2:List Zac} {a a2 d:Nat} {o:Int}
theorem FSt.start (h:Zbf w0 B base TA tc Ts AA ac as_ X a d NA nc ns):FSt w0 B base TA tc Ts AA ac as_ X NA d ((w0.setCell ⟨B,2,none⟩ (.int .i64 ((d:Int)+1))).alloc (.cells #[.pointer (some ⟨B,0,none⟩)] 172)) a NA nc ns:=by
 have hB:=h.cells.1
 have hz:(w0.setCell ⟨B,2,none⟩ (.int .i64 ((d:Int)+1))).heap.size=w0.heap.size:=by simp [World.setCell]
 refine ⟨?_, ?_, ?_,λx hx=>.inl hx⟩
 ·have:=(h.setDp ((d+1:Nat):Int)).fresh_ (.cells #[.pointer (some ⟨B,0,none⟩)] 172)
  have hz':(w0.setCell ⟨B,2,none⟩ (.int .i64 ((d+1:Nat):Int))).heap.size=w0.heap.size:=by simp [World.setCell]
  rw [hz'] at this
  have e:((d+1:Nat):Int)=(d:Int)+1:=qo
  rw [e] at this ⊢
  exact this
 ·exact Own.at_new hz.symm
 ·exact Only.al (Only.setCell (Only.refl _ _ _) qs _) (by rw [hz];exact Nat.le_refl _) _
theorem FSt.step (h:FSt w0 B base TA tc Ts AA ac as_ X NA d w a NA1 nc ns) (hb:Below w.heap.size w w'):FSt w0 B base TA tc Ts AA ac as_ X NA d w' a NA1 nc ns :=
 ⟨h.1.step hb,h.2.1.step hb,h.2.2.1.sub (Only.of_below hb []) h.2.2.1.size (λx hx=>by cases hx),h.2.2.2⟩
theorem FSt.drew (h:FSt w0 B base TA tc Ts AA ac as_ X NA d w a NA1 nc ns):FSt w0 B base TA tc Ts AA ac as_ X NA d w.drew a NA1 nc ns:=⟨h.1.drew,h.2.1.drew,h.2.2.1.drew,h.2.2.2⟩
theorem FSt.blt (h:FSt w0 B base TA tc Ts AA ac as_ X NA d w a NA1 nc ns):w0.heap.size∉B::gOf NA1:=by
 intro q
 rcases List.mem_cons.1 q with r|r
 ·exact (h.1.2.xlt w0.heap.size (by simp [gOf])).2 r
 ·exact (h.1.2.apN _ r).2.2 (by simp [gOf])
theorem FSt.go (h:FSt w0 B base TA tc Ts AA ac as_ X NA d w a NA1 nc ns) (hi:Zbf w' B base TA tc Ts AA ac as_ (gOf (some ⟨w0.heap.size,0,none⟩)++X) a2 ((d+1:Nat):Int) NA2 nc2 ns2) (hO:Only w.heap.size (B::gOf NA1) w w') (hS:∀ x,x∈gOf NA2->x∈gOf NA1∨w.heap.size<=x):FSt w0 B base TA tc Ts AA ac as_ X NA d w' a2 NA2 nc2 ns2 :=
 ⟨hi,(hO.block w0.heap.size h.2.1.lt h.blt).trans h.2.1,h.2.2.1.sub hO h.2.2.1.size (λx hx=>by
  rcases List.mem_cons.1 hx with rfl|hx
  ·exact .inl qs
  ·exact (h.2.2.2 x hx).imp (λq=>List.mem_cons_of_mem _ q) id),λx hx=>by
  rcases hS x hx with q|q
  ·exact h.2.2.2 x q
  ·exact .inr (Nat.le_trans h.2.2.1.size q)⟩
theorem FSt.next (h:FSt w0 B base TA tc Ts AA ac as_ X NA d w a NA1 nc ns) (hi:Zbf w' B base TA tc Ts AA ac as_ (gOf (some ⟨w0.heap.size,0,none⟩)++X) a2 ((d+1:Nat):Int) NA1 nc ns) (hO:Only w.heap.size [B] w w'):FSt w0 B base TA tc Ts AA ac as_ X NA d w' a2 NA1 nc ns :=
 h.go hi (hO.mono' (λx hx=>by simp at hx;simp [hx])) (λx hx=>.inl hx)
theorem FSt.bad (hB:B<w0.heap.size) (h:FSt w0 B base TA tc Ts AA ac as_ X NA d w a NA1 nc ns) (hi:OwnD w' B) (hO:Only w.heap.size (B::gOf NA1) w w'):FD w0 B NA w' :=
 ⟨hi,(hO.block w0.heap.size h.2.1.lt h.blt).trans h.2.1,h.2.2.1.sub hO h.2.2.1.size (λx hx=>by
  rcases List.mem_cons.1 hx with rfl|hx
  ·exact .inl qs
  ·exact (h.2.2.2 x hx).imp (λq=>List.mem_cons_of_mem _ q) id),hB⟩
theorem FSt.fd (hB:B<w0.heap.size) (h:FSt w0 B base TA tc Ts AA ac as_ X NA d w a NA1 nc ns):FD w0 B NA w:=⟨h.1.ownD,h.2.1,h.2.2.1,hB⟩
theorem FD.step (h:FD w0 B NA w) (hb:Below w.heap.size w w'):FD w0 B NA w':=⟨h.1.step hb,h.2.1.step hb,h.2.2.1.sub (Only.of_below hb []) h.2.2.1.size (λx hx=>by cases hx),h.2.2.2⟩
theorem FSt.door (h:FSt w0 B base TA tc Ts AA ac as_ X NA d w a NA1 nc ns):w.cell? ⟨w0.heap.size,0,none⟩=some (.pointer (some ⟨B,0,none⟩))/\w.cell? ⟨B,2,none⟩=some (.int .i64 ((d:Int)+1))/\w.frozen? ⟨B,2,none⟩=false :=
 ⟨h.2.1.cell 0,by have:=h.1.cells.2.2.2.1;simpa using this,h.1.cells.2.2.2.2.2.2 2⟩
theorem FD.door (h:FD w0 B NA w):w.cell? ⟨w0.heap.size,0,none⟩=some (.pointer (some ⟨B,0,none⟩))/\(∃ x:Int,w.cell? ⟨B,2,none⟩=some (.int .i64 x))/\w.frozen? ⟨B,2,none⟩=false:=by
 obtain ⟨⟨c0,c1,c3,c4,x,ho⟩,h2,_⟩:=h
 exact ⟨h2.cell 0,⟨x,ho.cell 2⟩,ho.frozen 2⟩
theorem FSt.fin {v:Int} (h:FSt w0 B base TA tc Ts AA ac as_ X NA d w a NA1 nc ns):IGo B base TA tc Ts AA ac as_ X d NA (.ok v a ns) w0 (.returned (.int .i64 v)) (w.setCell ⟨B,2,none⟩ (.int .i64 d)) :=
 ⟨NA1,nc,rfl,(h.1.setDp d).ownX (Below.refl _ _) (λy hy=>⟨by have:=(h.1.2.xlt y (by simp [hy])).1;simpa [World.setCell] using this,.inl (by simp [hy])⟩),Only.setCell h.2.2.1 qs _,h.2.2.2⟩
theorem FD.fin {x:Int} (h:FD w0 B NA w):IGo B base TA tc Ts AA ac as_ X d NA (.bad o) w0 (.panicked (rej o)) (w.setCell ⟨B,2,none⟩ (.int .i64 x)):=by
 obtain ⟨⟨c0,c1,c3,c4,y,ho⟩,h2,h3,hB⟩:=h
 exact ⟨rfl,⟨c0,c1,c3,c4,x,ho.set_ 2 _⟩,Only.setCell h3 qs _⟩
end
set_option maxHeartbeats 2000000 in
theorem I_fac0 {B base:Nat} {TA:Option Addr} {tc:Nat} {Ts:List Zaq} {AA:Option Addr} {ac:Nat} {as_:List Zaa} {k:Nat} (hk:TokK Ts) {d a:Nat} {X:List Nat} {NA:Option Addr} {nc:Nat} {ns:List Zac} (w:World)
  (h:Zbf w B base TA tc Ts AA ac as_ X a d NA nc ns) (ha:a<Ts.length) (hd:64<d+1) (hd2:d<=64) :
  Calls Tryz.prog 275 #[.pointer (some ⟨B,0,none⟩)] w (IGo B base TA tc Ts AA ac as_ X d NA (prs Ts (k+1) .fac (d+1) a ns) w):=by
 rw [prs_fac0 hd]
 have hB:=h.cells.1
 have g2:=h.cells.2.2.2.1
 have gf:=h.cells.2.2.2.2.2.2
 have HF:=hdQ (FSt.start h)
 have hd':(64:Int)<(d:Int)+1:=qo
 have hw:IntKind.i64.wrap ((d:Int)+1)=(d:Int)+1:=IntWalk.i64_in _ qo
 have hBw:¬ B=w.heap.size:=qo
 have hBw2:¬ w.heap.size=B:=qo
 have HNW:=qh (∀ wx a' NA' nc' ns',FSt w B base TA tc Ts AA ac as_ X NA d wx a' NA' nc' ns'->a'<Ts.length->CB_ Tryz.prog 192 #[.pointer (some ⟨B,0,none⟩)] wx (tkV Ts a')) (λwx a' NA' nc' ns' q q2=>I_now wx q.1 q2)
 clear h
 have HRJ:=qh (∀ wx,Calls Tryz.prog 194 #[.pointer (some ⟨B,0,none⟩),tkV Ts a] wx λe w'=>e=.panicked (rej (of_ Ts a))/\Below wx.heap.size wx w') (λwx=>Zfa _ _ _ _ _ wx)
 generalize htk:tkV Ts a=tv at HRJ
 have HTK:=hdQ htk
 clear htk
 generalize hof:of_ Ts a=off at *
 clear hof
 obtain ⟨u,hu⟩:=qv ((w.setCell ⟨B,2,none⟩ (.int .i64 ((d:Int)+1))).alloc (.cells #[.pointer (some ⟨B,0,none⟩)] 172))
 have HF1:=qh (FSt w B base TA tc Ts AA ac as_ X NA d u a NA nc ns) (by rw [<- hu];exact HF.out)
 obtain ⟨q0,q2,q3⟩:=HF1.out.door
 go_enter_defers Tryz.func275,Tryz.ntmps275
 go_wp2_with fail
 clear hu
 have HFd:=hdQ HF1.out.drew
 have HNWu:=hdQ (HNW.out _ _ _ _ _ HFd.out ha)
 rw [HTK.out] at HNWu
 refine wp_region_calm (R:=IGo B base TA tc Ts AA ac as_ X d NA (.bad off) w) (λc a' w' h1 h2=>by show Leaves _ _ _ _ a'.defers _ _;rw [h1];exact h2) ?_
 refine wp_region_held_drew (S:=(λw'=>w'.cell? ⟨w.heap.size,0,none⟩=some (.pointer (some ⟨B,0,none⟩)))) kr ?_ (λhHeld=>?_)
 ·(try dsimp only);(go_simp;done)
 refine tkH 0 ?_;(try simp only [LO,Act.put])
 refine tkH 1 ?_;(try simp only [LO,Act.put])
 refine wpAnyH_ready (rs:=[2]) kr qs ?_
 refine AllReadyH.cons rfl (λK hK=>?_) AllReadyH.nil
 go_simp
 refine HNWu.out.mono ?_
 rintro e u1 ⟨rfl,hb1⟩
 have HF3:=hdQ (HFd.out.step hb1)
 obtain ⟨r0,r2,r3⟩:=HF3.out.door
 clear hb1
 (try go_wp2_with fail)
 refine hK.out _ _ r0 (λhHeld2=>?_)
 clear hK K hHeld
 (try simp only [LO,Act.put])
 refine wpAnyH_ready (rs:=[3]) kr qs ?_
 refine AllReadyH.cons rfl (λK hK=>?_) AllReadyH.nil
 go_simp
 refine (HRJ.out _).mono ?_
 rintro e u2 ⟨rfl,hb2⟩
 have HF4:=hdQ ((HF3.out.fd hB).step hb2)
 clear hb2
 exact ⟨rfl,rfl,HF4.out.1,HF4.out.2.2.1⟩
def FGo (w0:World) (B base:Nat) (TA:Option Addr) (tc:Nat) (Ts:List Zaq) (AA:Option Addr) (ac:Nat) (as_:List Zaa) (X:List Nat) (NA:Option Addr) (d:Nat) (r:PR) (e:Ending) (w':World):Prop :=
 match r with
 | .ok v a ns=>∃ NA' nc',e=.returned (.int .i64 v)/\FSt w0 B base TA tc Ts AA ac as_ X NA d w' a NA' nc' ns
 | .bad o=>e=.panicked (rej o)/\FD w0 B NA w'
 | .out=>False
section
variable {w0 w w':World} {B base:Nat} {TA:Option Addr} {tc:Nat} {Ts:List Zaq} {AA:Option Addr} {ac:Nat} {as_:List Zaa} {X:List Nat} {NA NA1:Option Addr} {nc:Nat} {ns:List Zac} {a d:Nat}
theorem FSt.igo {r:PR} {e:Ending} (hB:B<w0.heap.size) (h:FSt w0 B base TA tc Ts AA ac as_ X NA d w a NA1 nc ns) (hg:IGo B base TA tc Ts AA ac as_ (gOf (some ⟨w0.heap.size,0,none⟩)++X) ((d+1:Nat):Int) NA1 r w e w'):FGo w0 B base TA tc Ts AA ac as_ X NA d r e w':=by
 cases r with
 | ok v a2 ns2=>obtain ⟨NA',nc',rfl,q1,q2,q3⟩:=hg;exact ⟨NA',nc',rfl,h.go q1 q2 q3⟩
 | bad o=>obtain ⟨rfl,q1,q2⟩:=hg;exact ⟨rfl,h.bad hB q1 q2⟩
 | out=>exact hg.elim
theorem F_now (h:FSt w0 B base TA tc Ts AA ac as_ X NA d w a NA1 nc ns) (ha:a<Ts.length):Calls Tryz.prog 192 #[.pointer (some ⟨B,0,none⟩)] w λe w'=>e=.returned (tkV Ts a)/\Below w.heap.size w w':=I_now w h.1 ha
theorem F_is (x:List UInt8) (hx:x≠[]) (b:Bool) (h:FSt w0 B base TA tc Ts AA ac as_ X NA d w a NA1 nc ns) (ha:a<Ts.length) (hb:decide (pk Ts a=x)=b):Calls Tryz.prog 245 #[.pointer (some ⟨B,0,none⟩),str x] w λe w'=>e=.returned (.bool b)/\FSt w0 B base TA tc Ts AA ac as_ X NA d w' a NA1 nc ns/\Below w.heap.size w w':=(I_is x w h.1 ha hx).mono (λe w' q=>⟨by rw [<- hb];exact q.1,h.step q.2,q.2⟩)
theorem F_next (h:FSt w0 B base TA tc Ts AA ac as_ X NA d w a NA1 nc ns) (ha:a<Ts.length) (hs:Ts.length<=1048576) (hk:kd Ts a≠0):Calls Tryz.prog 193 #[.pointer (some ⟨B,0,none⟩)] w λe w'=>∃ v,e=.returned v/\FSt w0 B base TA tc Ts AA ac as_ X NA d w' (a+1) NA1 nc ns/\Only w.heap.size [B] w w':=(I_next w h.1 ha hs hk).mono (λe w' q=>⟨_,q.1,h.next q.2.1 q.2.2,q.2.2⟩)
theorem FSt.alloc (h:FSt w0 B base TA tc Ts AA ac as_ X NA d w a NA1 nc ns) (o:Obj):FSt w0 B base TA tc Ts AA ac as_ X NA d (w.alloc o) a NA1 nc ns:=h.step ((Below.refl _ _).alloc (Nat.le_refl _) o)
theorem F_doorOk {fn:Func} {tmps:Array Value} {v:Int} (hres:(results fn tmps).run Tryz.prog (w.setCell ⟨B,2,none⟩ (.int .i64 d))=.ok (.int .i64 v) (w.setCell ⟨B,2,none⟩ (.int .i64 d))) (hd:d<=64) (h:FSt w0 B base TA tc Ts AA ac as_ X NA d w a NA1 nc ns) :
  Leaves Tryz.prog fn tmps (IGo B base TA tc Ts AA ac as_ X d NA (.ok v a ns) w0) [{ target:=.fn (.func 289) #[.pointer (some ⟨w0.heap.size,0,none⟩)],args := #[] }] .returning w:=by
 have hwd:IntKind.i64.wrap ((d:Int)+1-1)=d:=by rw [show (d:Int)+1-1=d by omega];exact IntWalk.i64_in _ qo
 obtain ⟨p0,p2,p3⟩:=h.door
 refine leaves_cons (f:=289) (args := #[.pointer (some ⟨w0.heap.size,0,none⟩)]) qs (by have hf:=Tryz.func289;simp [go_sem,hf]) ?_
 refine (I_factorD _ w p0 p2 p3).mono ?_
 rintro e m w' ⟨rfl,rfl,hw'⟩
 rw [hwd] at hw'
 subst hw'
 exact ⟨_,hres,h.fin⟩
theorem Zd6 {fn:Func} {tmps:Array Value} {o:Int} (h:FD w0 B NA w) :
  Leaves Tryz.prog fn tmps (IGo B base TA tc Ts AA ac as_ X d NA (.bad o) w0) [{ target:=.fn (.func 289) #[.pointer (some ⟨w0.heap.size,0,none⟩)],args := #[] }] (.panicking (rej o)) w:=by
 obtain ⟨p0,⟨x,p2⟩,p3⟩:=h.door
 refine leaves_cons (f:=289) (args := #[.pointer (some ⟨w0.heap.size,0,none⟩)]) qs (by have hf:=Tryz.func289;simp [go_sem,hf]) ?_
 refine (I_factorD _ w p0 p2 p3).mono ?_
 rintro e m w' ⟨rfl,rfl,hw'⟩
 subst hw'
 exact h.fin
end
theorem I_facX {B base:Nat} {TA:Option Addr} {tc:Nat} {Ts:List Zaq} {AA:Option Addr} {ac:Nat} {as_:List Zaa} {k:Nat} (hk:TokK Ts) (ih:∀ m,m<k+1->IPc B base TA tc Ts AA ac as_ m) {d a:Nat} {X:List Nat} {NA:Option Addr} {nc:Nat} {ns:List Zac} (w:World)
  (h:Zbf w B base TA tc Ts AA ac as_ X a d NA nc ns) (ha:a<Ts.length) (hd:¬ 64<d+1) (h1:pk Ts a≠[45]) (h2:pk Ts a≠[40]) (h3:kd Ts a≠1) (h4:kd Ts a≠2) (hn:1+4*(Ts.length-a)<=k+1) :
  Calls Tryz.prog 275 #[.pointer (some ⟨B,0,none⟩)] w (IGo B base TA tc Ts AA ac as_ X d NA (prs Ts (k+1) .fac (d+1) a ns) w):=by
 have hmf:∀ (fn:Fn) (first cap:Array Value) (w:World),(Instr.makeFunc fn first cap).run Tryz.prog w=.ok (.func fn first cap) w:=λ_ _ _ _=>rfl
 have hlen:=hk.len
 have hB:=h.cells.1
 have g2:=h.cells.2.2.2.1
 have gf:=h.cells.2.2.2.2.2.2
 have HF:=hdQ (FSt.start h)
 have hd':¬ (64:Int)<(d:Int)+1:=qo
 have hd2:d<=64:=qo
 have hw:IntKind.i64.wrap ((d:Int)+1)=(d:Int)+1:=IntWalk.i64_in _ qo
 have hBw:¬ B=w.heap.size:=qo
 have hBw2:¬ w.heap.size=B:=qo
 clear h
 obtain ⟨u,hu⟩:=qv ((w.setCell ⟨B,2,none⟩ (.int .i64 ((d:Int)+1))).alloc (.cells #[.pointer (some ⟨B,0,none⟩)] 172))
 have HF1:=qh (FSt w B base TA tc Ts AA ac as_ X NA d u a NA nc ns) (by rw [<- hu];exact HF.out)
 have hzu:w.heap.size<u.heap.size:=HF1.out.2.1.lt
 obtain ⟨q0,q2,q3⟩:=HF1.out.door
 have HN:=qh (Calls Tryz.prog 192 #[.pointer (some ⟨B,0,none⟩)] u λe w'=>e=.returned (.agg #[.int .i64 (kd Ts a),str (tx Ts a),.int .i64 (nm Ts a),.int .i64 (of_ Ts a)])/\Below u.heap.size u w') (F_now HF1.out ha)
 rw [prs_facX hd h1 h2 h3 h4]
 have HI1:=qh (∀ wx {NA':Option Addr} {nc':Nat} {ns':List Zac},FSt w B base TA tc Ts AA ac as_ X NA d wx a NA' nc' ns'->Calls Tryz.prog 245 #[.pointer (some ⟨B,0,none⟩),.string ⟨#[45]⟩] wx λe w'=>e=.returned (.bool false)/\FSt w B base TA tc Ts AA ac as_ X NA d w' a NA' nc' ns'/\Below wx.heap.size wx w') (λwx _ _ _ q=>F_is [45] qs false q qo (by simp [h1]))
 have HI2:=qh (∀ wx {NA':Option Addr} {nc':Nat} {ns':List Zac},FSt w B base TA tc Ts AA ac as_ X NA d wx a NA' nc' ns'->Calls Tryz.prog 245 #[.pointer (some ⟨B,0,none⟩),.string ⟨#[40]⟩] wx λe w'=>e=.returned (.bool false)/\FSt w B base TA tc Ts AA ac as_ X NA d w' a NA' nc' ns'/\Below wx.heap.size wx w') (λwx _ _ _ q=>F_is [40] qs false q qo (by simp [h2]))
 have HRJ:=qh (∀ wx,Calls Tryz.prog 194 #[.pointer (some ⟨B,0,none⟩),.agg #[.int .i64 (kd Ts a),str (tx Ts a),.int .i64 (nm Ts a),.int .i64 (of_ Ts a)]] wx λe w'=>e=.panicked (rej (of_ Ts a))/\Below wx.heap.size wx w') (λwx=>Zfa _ _ _ _ _ wx)
 have e1:(kd Ts a==1)=false:=beq_eq_false_iff_ne.2 h3
 have e2:(kd Ts a==2)=false:=beq_eq_false_iff_ne.2 h4
 clear h1 h2 h3 h4 ih hn
 generalize kd Ts a=kk at *
 generalize tx Ts a=xx at *
 generalize nm Ts a=nn at *
 generalize of_ Ts a=oo at *
 go_enter_defers Tryz.func275,Tryz.ntmps275
 go_wp2_with fail
 clear hu
 (with_reducible refine HN.out.mono ?_)
 rintro e u1 ⟨rfl,hb1⟩
 have HF2:=qh (FSt w B base TA tc Ts AA ac as_ X NA d (u1.alloc (.cells #[.int .i64 kk,str xx,.int .i64 nn,.int .i64 oo] 101)) a NA nc ns) ((HF1.out.step hb1).alloc _)
 have HTB:=qh (Own (u1.alloc (.cells #[.int .i64 kk,str xx,.int .i64 nn,.int .i64 oo] 101)) u1.heap.size 101 [.int .i64 kk,str xx,.int .i64 nn,.int .i64 oo]) (Own.new u1 101 #[_,_,_,_])
 have hz1:=hb1.size
 have HF2':=hdQ (HF1.out.step hb1)
 obtain ⟨r0,r2,r3⟩:=HF2'.out.door
 have hzw:w.heap.size<u1.heap.size:=qo
 have htb:¬ u1.heap.size=B:=qo
 clear hb1 q0 q2 q3
 go_wp2_with fail
 (with_reducible refine (HI1.out _ HF2.out).mono ?_)
 rintro e u2 ⟨rfl,hf2,hb2⟩
 have HF20:=hdQ hf2
 have HT2:=hdQ (Own.step hb2 HTB.out)
 clear r0 r2 r3 hf2 hb2
 obtain ⟨r0,r2,r3⟩:=HF20.out.door
 go_wp2_with fail
 (with_reducible refine (HI2.out _ HF20.out).mono ?_)
 rintro e u3 ⟨rfl,hf3,hb3⟩
 have HF30:=hdQ hf3
 have HT3:=hdQ (Own.step hb3 HT2.out)
 clear r0 r2 r3 hf3 hb3
 obtain ⟨r0,r2,r3⟩:=HF30.out.door
 have b0:=HT3.out.cell 0
 have b1:=HT3.out.cell 1
 have b2:=HT3.out.cell 2
 have b3:=HT3.out.cell 3
 have bz:=HT3.out.lt
 (try dsimp only [List.getElem?_cons_succ,List.getElem?_cons_zero] at b0 b1 b2 b3)
 go_wp2_with fail
 (with_reducible refine (HRJ.out _).mono ?_)
 rintro e u4 ⟨rfl,hb4⟩
 have HD:=hdQ ((HF30.out.fd hB).step hb4)
 clear hb4
 go_wp2_with fail
 exact Zd6 HD.out
theorem I_facN {B base:Nat} {TA:Option Addr} {tc:Nat} {Ts:List Zaq} {AA:Option Addr} {ac:Nat} {as_:List Zaa} {k:Nat} (hk:TokK Ts) (ih:∀ m,m<k+1->IPc B base TA tc Ts AA ac as_ m) {d a:Nat} {X:List Nat} {NA:Option Addr} {nc:Nat} {ns:List Zac} (w:World)
  (h:Zbf w B base TA tc Ts AA ac as_ X a d NA nc ns) (ha:a<Ts.length) (hd:¬ 64<d+1) (h1:pk Ts a≠[45]) (h2:pk Ts a≠[40]) (h3:kd Ts a=1) (hn:1+4*(Ts.length-a)<=k+1) :
  Calls Tryz.prog 275 #[.pointer (some ⟨B,0,none⟩)] w (IGo B base TA tc Ts AA ac as_ X d NA (prs Ts (k+1) .fac (d+1) a ns) w):=by
 have hmf:∀ (fn:Fn) (first cap:Array Value) (w:World),(Instr.makeFunc fn first cap).run Tryz.prog w=.ok (.func fn first cap) w:=λ_ _ _ _=>rfl
 have hlen:=hk.len
 have hB:=h.cells.1
 have g2:=h.cells.2.2.2.1
 have gf:=h.cells.2.2.2.2.2.2
 have HF:=hdQ (FSt.start h)
 have hd':¬ (64:Int)<(d:Int)+1:=qo
 have hd2:d<=64:=qo
 have hw:IntKind.i64.wrap ((d:Int)+1)=(d:Int)+1:=IntWalk.i64_in _ qo
 have hBw:¬ B=w.heap.size:=qo
 have hBw2:¬ w.heap.size=B:=qo
 clear h
 obtain ⟨u,hu⟩:=qv ((w.setCell ⟨B,2,none⟩ (.int .i64 ((d:Int)+1))).alloc (.cells #[.pointer (some ⟨B,0,none⟩)] 172))
 have HF1:=qh (FSt w B base TA tc Ts AA ac as_ X NA d u a NA nc ns) (by rw [<- hu];exact HF.out)
 have hzu:w.heap.size<u.heap.size:=HF1.out.2.1.lt
 obtain ⟨q0,q2,q3⟩:=HF1.out.door
 have HN:=qh (Calls Tryz.prog 192 #[.pointer (some ⟨B,0,none⟩)] u λe w'=>e=.returned (.agg #[.int .i64 (kd Ts a),str (tx Ts a),.int .i64 (nm Ts a),.int .i64 (of_ Ts a)])/\Below u.heap.size u w') (F_now HF1.out ha)
 rw [prs_facN hd h1 h2 h3]
 have hin:=kd_in hk.ok ha (by rw [h3];decide)
 have HI1:=qh (∀ wx {NA':Option Addr} {nc':Nat} {ns':List Zac},FSt w B base TA tc Ts AA ac as_ X NA d wx a NA' nc' ns'->Calls Tryz.prog 245 #[.pointer (some ⟨B,0,none⟩),.string ⟨#[45]⟩] wx λe w'=>e=.returned (.bool false)/\FSt w B base TA tc Ts AA ac as_ X NA d w' a NA' nc' ns'/\Below wx.heap.size wx w') (λwx _ _ _ q=>F_is [45] qs false q qo (by simp [h1]))
 have HI2:=qh (∀ wx {NA':Option Addr} {nc':Nat} {ns':List Zac},FSt w B base TA tc Ts AA ac as_ X NA d wx a NA' nc' ns'->Calls Tryz.prog 245 #[.pointer (some ⟨B,0,none⟩),.string ⟨#[40]⟩] wx λe w'=>e=.returned (.bool false)/\FSt w B base TA tc Ts AA ac as_ X NA d w' a NA' nc' ns'/\Below wx.heap.size wx w') (λwx _ _ _ q=>F_is [40] qs false q qo (by simp [h2]))
 have HNX:=qh (∀ wx {NA':Option Addr} {nc':Nat} {ns':List Zac},FSt w B base TA tc Ts AA ac as_ X NA d wx a NA' nc' ns'->Calls Tryz.prog 193 #[.pointer (some ⟨B,0,none⟩)] wx λe w'=>∃ v,e=.returned v/\FSt w B base TA tc Ts AA ac as_ X NA d w' (a+1) NA' nc' ns'/\Only wx.heap.size [B] wx w') (λwx _ _ _ q=>F_next q qo hlen (by rw [h3];decide))
 have HADD:=qh (∀ wx {NA':Option Addr} {nc':Nat},FSt w B base TA tc Ts AA ac as_ X NA d wx (a+1) NA' nc' ns->Calls Tryz.prog 274 #[.pointer (some ⟨B,0,none⟩),nodeV 1 [] (nm Ts a) (.slice none 0 0)] wx (FGo w B base TA tc Ts AA ac as_ X NA d (emit Ts (1,[],nm Ts a,[]) ((a+1)) ns))) (λwx NA' nc' q=>(I_add (args:=[]) (A:=none) (c:=0) wx q.1 qo qo hlen (Zbu.none_ _ _ _) (λy hy=>by cases hy)).mono (λe w' r=>FSt.igo hB q r))
 obtain ⟨R0,hR0⟩:=qv (emit Ts (1,[],nm Ts a,[]) (a+1) ns)
 rw [hR0] at HADD ⊢
 have hne:R0 ≠ .out:=by rw [<- hR0];unfold emit;split<;>simp
 clear hR0
 rw [h3] at HN
 clear h1 h2 h3 ih hn
 generalize tx Ts a=xx at *
 generalize nm Ts a=nn at *
 generalize of_ Ts a=oo at *
 go_enter_defers Tryz.func275,Tryz.ntmps275
 go_wp2_with fail
 clear hu
 (with_reducible refine HN.out.mono ?_)
 rintro e u1 ⟨rfl,hb1⟩
 have HF2:=qh (FSt w B base TA tc Ts AA ac as_ X NA d (u1.alloc (.cells #[.int .i64 1,str xx,.int .i64 nn,.int .i64 oo] 101)) a NA nc ns) ((HF1.out.step hb1).alloc _)
 have HTB:=qh (Own (u1.alloc (.cells #[.int .i64 1,str xx,.int .i64 nn,.int .i64 oo] 101)) u1.heap.size 101 [.int .i64 1,str xx,.int .i64 nn,.int .i64 oo]) (Own.new u1 101 #[_,_,_,_])
 have hz1:=hb1.size
 have HF2':=hdQ (HF1.out.step hb1)
 obtain ⟨r0,r2,r3⟩:=HF2'.out.door
 have hzw:w.heap.size<u1.heap.size:=qo
 have htb:¬ u1.heap.size=B:=qo
 clear hb1 q0 q2 q3
 go_wp2_with fail
 (with_reducible refine (HI1.out _ HF2.out).mono ?_)
 rintro e u2 ⟨rfl,hf2,hb2⟩
 have HF20:=hdQ hf2
 have HT2:=hdQ (Own.step hb2 HTB.out)
 clear r0 r2 r3 hf2 hb2
 obtain ⟨r0,r2,r3⟩:=HF20.out.door
 go_wp2_with fail
 (with_reducible refine (HI2.out _ HF20.out).mono ?_)
 rintro e u3 ⟨rfl,hf3,hb3⟩
 have HF30:=hdQ hf3
 have HT3:=hdQ (Own.step hb3 HT2.out)
 clear r0 r2 r3 hf3 hb3
 obtain ⟨r0,r2,r3⟩:=HF30.out.door
 have b0:=HT3.out.cell 0
 have b1:=HT3.out.cell 1
 have b2:=HT3.out.cell 2
 have b3:=HT3.out.cell 3
 have bz:=HT3.out.lt
 (try dsimp only [List.getElem?_cons_succ,List.getElem?_cons_zero] at b0 b1 b2 b3)
 go_wp2_with fail
 (with_reducible refine (HNX.out _ HF30.out).mono ?_)
 rintro e u4 ⟨v4,rfl,hf4,hO4⟩
 have HF40:=hdQ hf4
 have HT4:=hdQ (hO4.own HT3.out HT3.out.lt (by simpa using htb))
 clear r0 r2 r3 hf4 hO4
 obtain ⟨r0,r2,r3⟩:=HF40.out.door
 clear b0 b1 b2 b3 bz
 have b0:=HT4.out.cell 0
 have b1:=HT4.out.cell 1
 have b2:=HT4.out.cell 2
 have b3:=HT4.out.cell 3
 have bz:=HT4.out.lt
 (try dsimp only [List.getElem?_cons_succ,List.getElem?_cons_zero] at b0 b1 b2 b3)
 cases R0 with
 | out=>exact absurd rfl hne
 | bad o =>
  go_wp2_with fail
  (with_reducible refine (HADD.out _ HF40.out).mono ?_)
  rintro e u5 ⟨rfl,hd5⟩
  have HD:=hdQ hd5
  clear hd5
  go_wp2_with fail
  exact Zd6 HD.out
 | ok v9 a9 n9 =>
  go_wp2_with fail
  (with_reducible refine (HADD.out _ HF40.out).mono ?_)
  rintro e u5 ⟨NA9,nc9,rfl,hf5⟩
  have HF9:=hdQ hf5
  clear hf5
  go_wp2_with fail
  refine F_doorOk ?_ hd2 HF9.out
  simp [results,Tryz.results275,go_sem]
theorem I_facV {B base:Nat} {TA:Option Addr} {tc:Nat} {Ts:List Zaq} {AA:Option Addr} {ac:Nat} {as_:List Zaa} {k:Nat} (hk:TokK Ts) (ih:∀ m,m<k+1->IPc B base TA tc Ts AA ac as_ m) {d a:Nat} {X:List Nat} {NA:Option Addr} {nc:Nat} {ns:List Zac} (w:World)
  (h:Zbf w B base TA tc Ts AA ac as_ X a d NA nc ns) (ha:a<Ts.length) (hd:¬ 64<d+1) (h1:pk Ts a≠[45]) (h2:pk Ts a≠[40]) (h3:kd Ts a=2) (hq:pk Ts (a+1)≠[40]) (hn:1+4*(Ts.length-a)<=k+1) :
  Calls Tryz.prog 275 #[.pointer (some ⟨B,0,none⟩)] w (IGo B base TA tc Ts AA ac as_ X d NA (prs Ts (k+1) .fac (d+1) a ns) w):=by
 have hmf:∀ (fn:Fn) (first cap:Array Value) (w:World),(Instr.makeFunc fn first cap).run Tryz.prog w=.ok (.func fn first cap) w:=λ_ _ _ _=>rfl
 have hlen:=hk.len
 have hB:=h.cells.1
 have g2:=h.cells.2.2.2.1
 have gf:=h.cells.2.2.2.2.2.2
 have HF:=hdQ (FSt.start h)
 have hd':¬ (64:Int)<(d:Int)+1:=qo
 have hd2:d<=64:=qo
 have hw:IntKind.i64.wrap ((d:Int)+1)=(d:Int)+1:=IntWalk.i64_in _ qo
 have hBw:¬ B=w.heap.size:=qo
 have hBw2:¬ w.heap.size=B:=qo
 clear h
 obtain ⟨u,hu⟩:=qv ((w.setCell ⟨B,2,none⟩ (.int .i64 ((d:Int)+1))).alloc (.cells #[.pointer (some ⟨B,0,none⟩)] 172))
 have HF1:=qh (FSt w B base TA tc Ts AA ac as_ X NA d u a NA nc ns) (by rw [<- hu];exact HF.out)
 have hzu:w.heap.size<u.heap.size:=HF1.out.2.1.lt
 obtain ⟨q0,q2,q3⟩:=HF1.out.door
 have HN:=qh (Calls Tryz.prog 192 #[.pointer (some ⟨B,0,none⟩)] u λe w'=>e=.returned (.agg #[.int .i64 (kd Ts a),str (tx Ts a),.int .i64 (nm Ts a),.int .i64 (of_ Ts a)])/\Below u.heap.size u w') (F_now HF1.out ha)
 have hin:=kd_in hk.ok ha (by rw [h3];decide)
 have HI1:=qh (∀ wx {NA':Option Addr} {nc':Nat} {ns':List Zac},FSt w B base TA tc Ts AA ac as_ X NA d wx a NA' nc' ns'->Calls Tryz.prog 245 #[.pointer (some ⟨B,0,none⟩),.string ⟨#[45]⟩] wx λe w'=>e=.returned (.bool false)/\FSt w B base TA tc Ts AA ac as_ X NA d w' a NA' nc' ns'/\Below wx.heap.size wx w') (λwx _ _ _ q=>F_is [45] qs false q qo (by simp [h1]))
 have HI2:=qh (∀ wx {NA':Option Addr} {nc':Nat} {ns':List Zac},FSt w B base TA tc Ts AA ac as_ X NA d wx a NA' nc' ns'->Calls Tryz.prog 245 #[.pointer (some ⟨B,0,none⟩),.string ⟨#[40]⟩] wx λe w'=>e=.returned (.bool false)/\FSt w B base TA tc Ts AA ac as_ X NA d w' a NA' nc' ns'/\Below wx.heap.size wx w') (λwx _ _ _ q=>F_is [40] qs false q qo (by simp [h2]))
 have HI3:=qh (∀ wx {NA':Option Addr} {nc':Nat} {ns':List Zac},FSt w B base TA tc Ts AA ac as_ X NA d wx (a+1) NA' nc' ns'->Calls Tryz.prog 245 #[.pointer (some ⟨B,0,none⟩),.string ⟨#[40]⟩] wx λe w'=>e=.returned (.bool false)/\FSt w B base TA tc Ts AA ac as_ X NA d w' (a+1) NA' nc' ns'/\Below wx.heap.size wx w') (λwx _ _ _ q=>F_is [40] qs false q qo (by simp [hq]))
 have HNX:=qh (∀ wx {NA':Option Addr} {nc':Nat} {ns':List Zac},FSt w B base TA tc Ts AA ac as_ X NA d wx a NA' nc' ns'->Calls Tryz.prog 193 #[.pointer (some ⟨B,0,none⟩)] wx λe w'=>∃ v,e=.returned v/\FSt w B base TA tc Ts AA ac as_ X NA d w' (a+1) NA' nc' ns'/\Only wx.heap.size [B] wx w') (λwx _ _ _ q=>F_next q qo hlen (by rw [h3];decide))
 have HADD:=qh (∀ wx {NA':Option Addr} {nc':Nat},FSt w B base TA tc Ts AA ac as_ X NA d wx (a+1) NA' nc' ns->Calls Tryz.prog 274 #[.pointer (some ⟨B,0,none⟩),nodeV 2 (tx Ts a) 0 (.slice none 0 0)] wx (FGo w B base TA tc Ts AA ac as_ X NA d (emit Ts (2,tx Ts a,0,[]) ((a+1)) ns))) (λwx NA' nc' q=>(I_add (args:=[]) (A:=none) (c:=0) wx q.1 qo qo hlen (Zbu.none_ _ _ _) (λy hy=>by cases hy)).mono (λe w' r=>FSt.igo hB q r))
 rw [prs_facV hd h1 h2 h3 hq]
 obtain ⟨R0,hR0⟩:=qv (emit Ts (2,tx Ts a,0,[]) (a+1) ns)
 rw [hR0] at HADD ⊢
 have hne:R0 ≠ .out:=by rw [<- hR0];unfold emit;split<;>simp
 clear hR0
 rw [h3] at HN
 clear h1 h2 h3 hq ih hn
 generalize tx Ts a=xx at *
 generalize nm Ts a=nn at *
 generalize of_ Ts a=oo at *
 go_enter_defers Tryz.func275,Tryz.ntmps275
 go_wp2_with fail
 clear hu
 (with_reducible refine HN.out.mono ?_)
 rintro e u1 ⟨rfl,hb1⟩
 have HF2:=qh (FSt w B base TA tc Ts AA ac as_ X NA d (u1.alloc (.cells #[.int .i64 2,str xx,.int .i64 nn,.int .i64 oo] 101)) a NA nc ns) ((HF1.out.step hb1).alloc _)
 have HTB:=qh (Own (u1.alloc (.cells #[.int .i64 2,str xx,.int .i64 nn,.int .i64 oo] 101)) u1.heap.size 101 [.int .i64 2,str xx,.int .i64 nn,.int .i64 oo]) (Own.new u1 101 #[_,_,_,_])
 have hz1:=hb1.size
 have HF2':=hdQ (HF1.out.step hb1)
 obtain ⟨r0,r2,r3⟩:=HF2'.out.door
 have hzw:w.heap.size<u1.heap.size:=qo
 have htb:¬ u1.heap.size=B:=qo
 clear hb1 q0 q2 q3
 go_wp2_with fail
 (with_reducible refine (HI1.out _ HF2.out).mono ?_)
 rintro e u2 ⟨rfl,hf2,hb2⟩
 have HF20:=hdQ hf2
 have HT2:=hdQ (Own.step hb2 HTB.out)
 clear r0 r2 r3 hf2 hb2
 obtain ⟨r0,r2,r3⟩:=HF20.out.door
 go_wp2_with fail
 (with_reducible refine (HI2.out _ HF20.out).mono ?_)
 rintro e u3 ⟨rfl,hf3,hb3⟩
 have HF30:=hdQ hf3
 have HT3:=hdQ (Own.step hb3 HT2.out)
 clear r0 r2 r3 hf3 hb3
 obtain ⟨r0,r2,r3⟩:=HF30.out.door
 have b0:=HT3.out.cell 0
 have b1:=HT3.out.cell 1
 have b2:=HT3.out.cell 2
 have b3:=HT3.out.cell 3
 have bz:=HT3.out.lt
 (try dsimp only [List.getElem?_cons_succ,List.getElem?_cons_zero] at b0 b1 b2 b3)
 go_wp2_with fail
 (with_reducible refine (HNX.out _ HF30.out).mono ?_)
 rintro e u4 ⟨v4,rfl,hf4,hO4⟩
 have HF40:=hdQ hf4
 have HT4:=hdQ (hO4.own HT3.out HT3.out.lt (by simpa using htb))
 clear r0 r2 r3 hf4 hO4
 obtain ⟨r0,r2,r3⟩:=HF40.out.door
 clear b0 b1 b2 b3 bz
 go_wp2_with fail
 (with_reducible refine (HI3.out _ HF40.out).mono ?_)
 rintro e u5 ⟨rfl,hf5,hb5⟩
 have HF50:=hdQ hf5
 have HT5:=hdQ (Own.step hb5 HT4.out)
 clear r0 r2 r3 hf5 hb5
 obtain ⟨r0,r2,r3⟩:=HF50.out.door
 have b0:=HT5.out.cell 0
 have b1:=HT5.out.cell 1
 have b2:=HT5.out.cell 2
 have b3:=HT5.out.cell 3
 have bz:=HT5.out.lt
 (try dsimp only [List.getElem?_cons_succ,List.getElem?_cons_zero] at b0 b1 b2 b3)
 cases R0 with
 | out=>exact absurd rfl hne
 | bad o =>
  go_wp2_with fail
  (with_reducible refine (HADD.out _ HF50.out).mono ?_)
  rintro e u6 ⟨rfl,hd6⟩
  have HD:=hdQ hd6
  clear hd6
  go_wp2_with fail
  exact Zd6 HD.out
 | ok v9 a9 n9 =>
  go_wp2_with fail
  (with_reducible refine (HADD.out _ HF50.out).mono ?_)
  rintro e u6 ⟨NA9,nc9,rfl,hf6⟩
  have HF9:=hdQ hf6
  clear hf6
  go_wp2_with fail
  refine F_doorOk ?_ hd2 HF9.out
  simp [results,Tryz.results275,go_sem]
theorem I_facC {B base:Nat} {TA:Option Addr} {tc:Nat} {Ts:List Zaq} {AA:Option Addr} {ac:Nat} {as_:List Zaa} {k:Nat} (hk:TokK Ts) (ih:∀ m,m<k+1->IPc B base TA tc Ts AA ac as_ m) {d a:Nat} {X:List Nat} {NA:Option Addr} {nc:Nat} {ns:List Zac} (w:World)
  (h:Zbf w B base TA tc Ts AA ac as_ X a d NA nc ns) (ha:a<Ts.length) (hd:¬ 64<d+1) (h1:pk Ts a≠[45]) (h2:pk Ts a≠[40]) (h3:kd Ts a=2) (hq:pk Ts (a+1)=[40]) (hn:1+4*(Ts.length-a)<=k+1) :
  Calls Tryz.prog 275 #[.pointer (some ⟨B,0,none⟩)] w (IGo B base TA tc Ts AA ac as_ X d NA (prs Ts (k+1) .fac (d+1) a ns) w):=by
 have hmf:∀ (fn:Fn) (first cap:Array Value) (w:World),(Instr.makeFunc fn first cap).run Tryz.prog w=.ok (.func fn first cap) w:=λ_ _ _ _=>rfl
 have hlen:=hk.len
 have hB:=h.cells.1
 have g2:=h.cells.2.2.2.1
 have gf:=h.cells.2.2.2.2.2.2
 have HF:=hdQ (FSt.start h)
 have hd':¬ (64:Int)<(d:Int)+1:=qo
 have hd2:d<=64:=qo
 have hw:IntKind.i64.wrap ((d:Int)+1)=(d:Int)+1:=IntWalk.i64_in _ qo
 have hBw:¬ B=w.heap.size:=qo
 have hBw2:¬ w.heap.size=B:=qo
 clear h
 obtain ⟨u,hu⟩:=qv ((w.setCell ⟨B,2,none⟩ (.int .i64 ((d:Int)+1))).alloc (.cells #[.pointer (some ⟨B,0,none⟩)] 172))
 have HF1:=qh (FSt w B base TA tc Ts AA ac as_ X NA d u a NA nc ns) (by rw [<- hu];exact HF.out)
 have hzu:w.heap.size<u.heap.size:=HF1.out.2.1.lt
 obtain ⟨q0,q2,q3⟩:=HF1.out.door
 have HN:=qh (Calls Tryz.prog 192 #[.pointer (some ⟨B,0,none⟩)] u λe w'=>e=.returned (.agg #[.int .i64 (kd Ts a),str (tx Ts a),.int .i64 (nm Ts a),.int .i64 (of_ Ts a)])/\Below u.heap.size u w') (F_now HF1.out ha)
 have hin:=kd_in hk.ok ha (by rw [h3];decide)
 have HI1:=qh (∀ wx {NA':Option Addr} {nc':Nat} {ns':List Zac},FSt w B base TA tc Ts AA ac as_ X NA d wx a NA' nc' ns'->Calls Tryz.prog 245 #[.pointer (some ⟨B,0,none⟩),.string ⟨#[45]⟩] wx λe w'=>e=.returned (.bool false)/\FSt w B base TA tc Ts AA ac as_ X NA d w' a NA' nc' ns'/\Below wx.heap.size wx w') (λwx _ _ _ q=>F_is [45] qs false q qo (by simp [h1]))
 have HI2:=qh (∀ wx {NA':Option Addr} {nc':Nat} {ns':List Zac},FSt w B base TA tc Ts AA ac as_ X NA d wx a NA' nc' ns'->Calls Tryz.prog 245 #[.pointer (some ⟨B,0,none⟩),.string ⟨#[40]⟩] wx λe w'=>e=.returned (.bool false)/\FSt w B base TA tc Ts AA ac as_ X NA d w' a NA' nc' ns'/\Below wx.heap.size wx w') (λwx _ _ _ q=>F_is [40] qs false q qo (by simp [h2]))
 have HI3:=qh (∀ wx {NA':Option Addr} {nc':Nat} {ns':List Zac},FSt w B base TA tc Ts AA ac as_ X NA d wx (a+1) NA' nc' ns'->Calls Tryz.prog 245 #[.pointer (some ⟨B,0,none⟩),.string ⟨#[40]⟩] wx λe w'=>e=.returned (.bool true)/\FSt w B base TA tc Ts AA ac as_ X NA d w' (a+1) NA' nc' ns'/\Below wx.heap.size wx w') (λwx _ _ _ q=>F_is [40] qs true q qo (by simp [hq]))
 have HNX:=qh (∀ wx {NA':Option Addr} {nc':Nat} {ns':List Zac},FSt w B base TA tc Ts AA ac as_ X NA d wx a NA' nc' ns'->Calls Tryz.prog 193 #[.pointer (some ⟨B,0,none⟩)] wx λe w'=>∃ v,e=.returned v/\FSt w B base TA tc Ts AA ac as_ X NA d w' (a+1) NA' nc' ns'/\Only wx.heap.size [B] wx w') (λwx _ _ _ q=>F_next q qo hlen (by rw [h3];decide))
 have hin2:=Zc9 hk.ok hin (by rw [hq];simp)
 have hE:=Zbq hk.ok k (.args (tx Ts a) []) (d+1+1) (a+2) ns hin2 (by show 4+_<=k;omega)
 have HADD:=qh (∀ wx {NA':Option Addr} {nc':Nat},FSt w B base TA tc Ts AA ac as_ X NA d wx (a+1) NA' nc' ns->Calls Tryz.prog 290 #[.pointer (some ⟨B,0,none⟩),str (tx Ts a)] wx (FGo w B base TA tc Ts AA ac as_ X NA d (prs Ts k (.args (tx Ts a) []) (d+1+1) (a+2) ns))) (λwx NA' nc' q=>((ih k qo).cal (tx Ts a) (d+1) (a+1) _ NA' nc' ns wx q.1 hin2 qo hq qo).mono (λe w' r=>FSt.igo hB q r))
 rw [prs_facC hd h1 h2 h3 hq]
 obtain ⟨R0,hR0⟩:=qv (prs Ts k (.args (tx Ts a) []) (d+1+1) (a+2) ns)
 rw [hR0] at HADD ⊢
 have hne:R0 ≠ .out:=by rw [<- hR0];exact hE.1
 clear hR0 hE
 rw [h3] at HN
 clear h1 h2 h3 hq ih hn
 generalize tx Ts a=xx at *
 generalize nm Ts a=nn at *
 generalize of_ Ts a=oo at *
 go_enter_defers Tryz.func275,Tryz.ntmps275
 go_wp2_with fail
 clear hu
 (with_reducible refine HN.out.mono ?_)
 rintro e u1 ⟨rfl,hb1⟩
 have HF2:=qh (FSt w B base TA tc Ts AA ac as_ X NA d (u1.alloc (.cells #[.int .i64 2,str xx,.int .i64 nn,.int .i64 oo] 101)) a NA nc ns) ((HF1.out.step hb1).alloc _)
 have HTB:=qh (Own (u1.alloc (.cells #[.int .i64 2,str xx,.int .i64 nn,.int .i64 oo] 101)) u1.heap.size 101 [.int .i64 2,str xx,.int .i64 nn,.int .i64 oo]) (Own.new u1 101 #[_,_,_,_])
 have hz1:=hb1.size
 have HF2':=hdQ (HF1.out.step hb1)
 obtain ⟨r0,r2,r3⟩:=HF2'.out.door
 have hzw:w.heap.size<u1.heap.size:=qo
 have htb:¬ u1.heap.size=B:=qo
 clear hb1 q0 q2 q3
 go_wp2_with fail
 (with_reducible refine (HI1.out _ HF2.out).mono ?_)
 rintro e u2 ⟨rfl,hf2,hb2⟩
 have HF20:=hdQ hf2
 have HT2:=hdQ (Own.step hb2 HTB.out)
 clear r0 r2 r3 hf2 hb2
 obtain ⟨r0,r2,r3⟩:=HF20.out.door
 go_wp2_with fail
 (with_reducible refine (HI2.out _ HF20.out).mono ?_)
 rintro e u3 ⟨rfl,hf3,hb3⟩
 have HF30:=hdQ hf3
 have HT3:=hdQ (Own.step hb3 HT2.out)
 clear r0 r2 r3 hf3 hb3
 obtain ⟨r0,r2,r3⟩:=HF30.out.door
 have b0:=HT3.out.cell 0
 have b1:=HT3.out.cell 1
 have b2:=HT3.out.cell 2
 have b3:=HT3.out.cell 3
 have bz:=HT3.out.lt
 (try dsimp only [List.getElem?_cons_succ,List.getElem?_cons_zero] at b0 b1 b2 b3)
 go_wp2_with fail
 (with_reducible refine (HNX.out _ HF30.out).mono ?_)
 rintro e u4 ⟨v4,rfl,hf4,hO4⟩
 have HF40:=hdQ hf4
 have HT4:=hdQ (hO4.own HT3.out HT3.out.lt (by simpa using htb))
 clear r0 r2 r3 hf4 hO4
 obtain ⟨r0,r2,r3⟩:=HF40.out.door
 clear b0 b1 b2 b3 bz
 go_wp2_with fail
 (with_reducible refine (HI3.out _ HF40.out).mono ?_)
 rintro e u5 ⟨rfl,hf5,hb5⟩
 have HF50:=hdQ hf5
 have HT5:=hdQ (Own.step hb5 HT4.out)
 clear r0 r2 r3 hf5 hb5
 obtain ⟨r0,r2,r3⟩:=HF50.out.door
 have b0:=HT5.out.cell 0
 have b1:=HT5.out.cell 1
 have b2:=HT5.out.cell 2
 have b3:=HT5.out.cell 3
 have bz:=HT5.out.lt
 (try dsimp only [List.getElem?_cons_succ,List.getElem?_cons_zero] at b0 b1 b2 b3)
 cases R0 with
 | out=>exact absurd rfl hne
 | bad o =>
  go_wp2_with fail
  (with_reducible refine (HADD.out _ HF50.out).mono ?_)
  rintro e u6 ⟨rfl,hd6⟩
  have HD:=hdQ hd6
  clear hd6
  go_wp2_with fail
  exact Zd6 HD.out
 | ok v9 a9 n9 =>
  go_wp2_with fail
  (with_reducible refine (HADD.out _ HF50.out).mono ?_)
  rintro e u6 ⟨NA9,nc9,rfl,hf6⟩
  have HF9:=hdQ hf6
  clear hf6
  go_wp2_with fail
  refine F_doorOk ?_ hd2 HF9.out
  simp [results,Tryz.results275,go_sem]
theorem I_facM {B base:Nat} {TA:Option Addr} {tc:Nat} {Ts:List Zaq} {AA:Option Addr} {ac:Nat} {as_:List Zaa} {k:Nat} (hk:TokK Ts) (ih:∀ m,m<k+1->IPc B base TA tc Ts AA ac as_ m) {d a:Nat} {X:List Nat} {NA:Option Addr} {nc:Nat} {ns:List Zac} (w:World)
  (h:Zbf w B base TA tc Ts AA ac as_ X a d NA nc ns) (ha:a<Ts.length) (hd:¬ 64<d+1) (h1:pk Ts a=[45]) (hn:1+4*(Ts.length-a)<=k+1) :
  Calls Tryz.prog 275 #[.pointer (some ⟨B,0,none⟩)] w (IGo B base TA tc Ts AA ac as_ X d NA (prs Ts (k+1) .fac (d+1) a ns) w):=by
 have hmf:∀ (fn:Fn) (first cap:Array Value) (w:World),(Instr.makeFunc fn first cap).run Tryz.prog w=.ok (.func fn first cap) w:=λ_ _ _ _=>rfl
 have hlen:=hk.len
 have hB:=h.cells.1
 have g2:=h.cells.2.2.2.1
 have gf:=h.cells.2.2.2.2.2.2
 have HF:=hdQ (FSt.start h)
 have hd':¬ (64:Int)<(d:Int)+1:=qo
 have hd2:d<=64:=qo
 have hw:IntKind.i64.wrap ((d:Int)+1)=(d:Int)+1:=IntWalk.i64_in _ qo
 have hBw:¬ B=w.heap.size:=qo
 have hBw2:¬ w.heap.size=B:=qo
 clear h
 obtain ⟨u,hu⟩:=qv ((w.setCell ⟨B,2,none⟩ (.int .i64 ((d:Int)+1))).alloc (.cells #[.pointer (some ⟨B,0,none⟩)] 172))
 have HF1:=qh (FSt w B base TA tc Ts AA ac as_ X NA d u a NA nc ns) (by rw [<- hu];exact HF.out)
 have hzu:w.heap.size<u.heap.size:=HF1.out.2.1.lt
 obtain ⟨q0,q2,q3⟩:=HF1.out.door
 have HN:=qh (Calls Tryz.prog 192 #[.pointer (some ⟨B,0,none⟩)] u λe w'=>e=.returned (.agg #[.int .i64 (kd Ts a),str (tx Ts a),.int .i64 (nm Ts a),.int .i64 (of_ Ts a)])/\Below u.heap.size u w') (F_now HF1.out ha)
 have hin:=Zc9 hk.ok ha (by rw [h1];simp)
 have hE:=Zbq hk.ok k .fac (d+1+1) (a+1) ns hin (by show 1+_<=k;omega)
 have HI1:=qh (∀ wx {NA':Option Addr} {nc':Nat} {ns':List Zac},FSt w B base TA tc Ts AA ac as_ X NA d wx a NA' nc' ns'->Calls Tryz.prog 245 #[.pointer (some ⟨B,0,none⟩),.string ⟨#[45]⟩] wx λe w'=>e=.returned (.bool true)/\FSt w B base TA tc Ts AA ac as_ X NA d w' a NA' nc' ns'/\Below wx.heap.size wx w') (λwx _ _ _ q=>F_is [45] qs true q qo (by simp [h1]))
 have HNX:=qh (∀ wx {NA':Option Addr} {nc':Nat} {ns':List Zac},FSt w B base TA tc Ts AA ac as_ X NA d wx a NA' nc' ns'->Calls Tryz.prog 193 #[.pointer (some ⟨B,0,none⟩)] wx λe w'=>∃ v,e=.returned v/\FSt w B base TA tc Ts AA ac as_ X NA d w' (a+1) NA' nc' ns'/\Only wx.heap.size [B] wx w') (λwx _ _ _ q=>F_next q qo hlen (pk_kd h1 qs))
 have HREC:=qh (∀ wx {NA':Option Addr} {nc':Nat},FSt w B base TA tc Ts AA ac as_ X NA d wx (a+1) NA' nc' ns->Calls Tryz.prog 275 #[.pointer (some ⟨B,0,none⟩)] wx (FGo w B base TA tc Ts AA ac as_ X NA d (prs Ts k .fac (d+1+1) (a+1) ns))) (λwx NA' nc' q=>((ih k qo).fac (d+1) (a+1) _ NA' nc' ns wx q.1 hin qo qo).mono (λe w' r=>FSt.igo hB q r))
 rw [prs_facM hd h1]
 cases hr:prs Ts k .fac (d+1+1) (a+1) ns with
 | out=>exact absurd hr hE.1
 | bad o =>
  rw [hr] at HREC
  dsimp only
  clear h1 ih hn hE hr
  generalize kd Ts a=kk at *
  generalize tx Ts a=xx at *
  generalize nm Ts a=nn at *
  generalize of_ Ts a=oo at *
  go_enter_defers Tryz.func275,Tryz.ntmps275
  go_wp2_with fail
  clear hu
  (with_reducible refine HN.out.mono ?_)
  rintro e u1 ⟨rfl,hb1⟩
  have HF2:=qh (FSt w B base TA tc Ts AA ac as_ X NA d (u1.alloc (.cells #[.int .i64 kk,str xx,.int .i64 nn,.int .i64 oo] 101)) a NA nc ns) ((HF1.out.step hb1).alloc _)
  have HTB:=qh (Own (u1.alloc (.cells #[.int .i64 kk,str xx,.int .i64 nn,.int .i64 oo] 101)) u1.heap.size 101 [.int .i64 kk,str xx,.int .i64 nn,.int .i64 oo]) (Own.new u1 101 #[_,_,_,_])
  have hz1:=hb1.size
  have HF2':=hdQ (HF1.out.step hb1)
  obtain ⟨r0,r2,r3⟩:=HF2'.out.door
  have hzw:w.heap.size<u1.heap.size:=qo
  have htb:¬ u1.heap.size=B:=qo
  clear hb1 q0 q2 q3
  go_wp2_with fail
  (with_reducible refine (HI1.out _ HF2.out).mono ?_)
  rintro e u2 ⟨rfl,hf2,hb2⟩
  have HF20:=hdQ hf2
  have HT2:=hdQ (Own.step hb2 HTB.out)
  clear r0 r2 r3 hf2 hb2
  obtain ⟨r0,r2,r3⟩:=HF20.out.door
  go_wp2_with fail
  (with_reducible refine (HNX.out _ HF20.out).mono ?_)
  rintro e u3 ⟨v3,rfl,hf3,hO3⟩
  have HF30:=hdQ hf3
  have HT3:=hdQ (hO3.own HT2.out HT2.out.lt (by simpa using htb))
  clear r0 r2 r3 hf3 hO3
  obtain ⟨r0,r2,r3⟩:=HF30.out.door
  go_wp2_with fail
  (with_reducible refine (HREC.out _ HF30.out).mono ?_)
  rintro e u4 ⟨rfl,hd4⟩
  have HD:=hdQ hd4
  clear hd4
  go_wp2_with fail
  exact Zd6 HD.out
 | ok v a1 n1 =>
  rw [hr] at HREC
  dsimp only
  have h6:=hE.2 v a1 n1 hr
  have h6':a+1+1<=a1/\a1<Ts.length:=h6
  have HADD:=qh (∀ wx {NA':Option Addr} {nc':Nat},FSt w B base TA tc Ts AA ac as_ X NA d wx a1 NA' nc' n1->Calls Tryz.prog 274 #[.pointer (some ⟨B,0,none⟩),nodeV 3 [] 0 (.slice (some ⟨wx.heap.size,0,none⟩) 1 1)] (wx.alloc (.cells #[.int .i64 v] 3)) (FGo w B base TA tc Ts AA ac as_ X NA d (emit Ts (3,[],0,[v]) a1 n1))) (λwx NA' nc' q=>(I_add (args:=[v]) _ (q.1.fresh_ _) qo qo hlen (Zbu.some_ (Own.new wx 3 #[.int .i64 v]) rfl qs) (λy hy=>by
    obtain rfl:y=wx.heap.size:=by simpa [gOf] using hy
    exact λr=>by have:=(q.1.2.xlt _ r).1;omega)).mono (λe w' r=>FSt.igo hB (q.alloc _) r))
  obtain ⟨R0,hR0⟩:=qv (emit Ts (3,[],0,[v]) a1 n1)
  rw [hR0] at HADD ⊢
  have hne:R0 ≠ .out:=by rw [<- hR0];unfold emit;split<;>simp
  clear hR0
  clear h1 ih hn hE hr h6
  generalize kd Ts a=kk at *
  generalize tx Ts a=xx at *
  generalize nm Ts a=nn at *
  generalize of_ Ts a=oo at *
  go_enter_defers Tryz.func275,Tryz.ntmps275
  go_wp2_with fail
  clear hu
  (with_reducible refine HN.out.mono ?_)
  rintro e u1 ⟨rfl,hb1⟩
  have HF2:=qh (FSt w B base TA tc Ts AA ac as_ X NA d (u1.alloc (.cells #[.int .i64 kk,str xx,.int .i64 nn,.int .i64 oo] 101)) a NA nc ns) ((HF1.out.step hb1).alloc _)
  have HTB:=qh (Own (u1.alloc (.cells #[.int .i64 kk,str xx,.int .i64 nn,.int .i64 oo] 101)) u1.heap.size 101 [.int .i64 kk,str xx,.int .i64 nn,.int .i64 oo]) (Own.new u1 101 #[_,_,_,_])
  have hz1:=hb1.size
  have HF2':=hdQ (HF1.out.step hb1)
  obtain ⟨r0,r2,r3⟩:=HF2'.out.door
  have hzw:w.heap.size<u1.heap.size:=qo
  have htb:¬ u1.heap.size=B:=qo
  clear hb1 q0 q2 q3
  go_wp2_with fail
  (with_reducible refine (HI1.out _ HF2.out).mono ?_)
  rintro e u2 ⟨rfl,hf2,hb2⟩
  have HF20:=hdQ hf2
  have HT2:=hdQ (Own.step hb2 HTB.out)
  clear r0 r2 r3 hf2 hb2
  obtain ⟨r0,r2,r3⟩:=HF20.out.door
  go_wp2_with fail
  (with_reducible refine (HNX.out _ HF20.out).mono ?_)
  rintro e u3 ⟨v3,rfl,hf3,hO3⟩
  have HF30:=hdQ hf3
  have HT3:=hdQ (hO3.own HT2.out HT2.out.lt (by simpa using htb))
  clear r0 r2 r3 hf3 hO3
  obtain ⟨r0,r2,r3⟩:=HF30.out.door
  go_wp2_with fail
  (with_reducible refine (HREC.out _ HF30.out).mono ?_)
  rintro e u4 ⟨NA4,nc4,rfl,hf4⟩
  have HF40:=hdQ hf4
  clear r0 r2 r3 hf4
  obtain ⟨r0,r2,r3⟩:=HF40.out.door
  cases R0 with
  | out=>exact absurd rfl hne
  | bad o =>
   go_wp2_with fail
   (with_reducible refine (HADD.out _ HF40.out).mono ?_)
   rintro e u5 ⟨rfl,hd5⟩
   have HD:=hdQ hd5
   clear hd5
   go_wp2_with fail
   exact Zd6 HD.out
  | ok v9 a9 n9 =>
   go_wp2_with fail
   (with_reducible refine (HADD.out _ HF40.out).mono ?_)
   rintro e u5 ⟨NA9,nc9,rfl,hf5⟩
   have HF9:=hdQ hf5
   clear hf5
   go_wp2_with fail
   refine F_doorOk ?_ hd2 HF9.out
   simp [results,Tryz.results275,go_sem]
theorem I_facP {B base:Nat} {TA:Option Addr} {tc:Nat} {Ts:List Zaq} {AA:Option Addr} {ac:Nat} {as_:List Zaa} {k:Nat} (hk:TokK Ts) (ih:∀ m,m<k+1->IPc B base TA tc Ts AA ac as_ m) {d a:Nat} {X:List Nat} {NA:Option Addr} {nc:Nat} {ns:List Zac} (w:World)
  (h:Zbf w B base TA tc Ts AA ac as_ X a d NA nc ns) (ha:a<Ts.length) (hd:¬ 64<d+1) (h2:pk Ts a=[40]) (hn:1+4*(Ts.length-a)<=k+1) :
  Calls Tryz.prog 275 #[.pointer (some ⟨B,0,none⟩)] w (IGo B base TA tc Ts AA ac as_ X d NA (prs Ts (k+1) .fac (d+1) a ns) w):=by
 have hmf:∀ (fn:Fn) (first cap:Array Value) (w:World),(Instr.makeFunc fn first cap).run Tryz.prog w=.ok (.func fn first cap) w:=λ_ _ _ _=>rfl
 have hlen:=hk.len
 have hB:=h.cells.1
 have g2:=h.cells.2.2.2.1
 have gf:=h.cells.2.2.2.2.2.2
 have HF:=hdQ (FSt.start h)
 have hd':¬ (64:Int)<(d:Int)+1:=qo
 have hd2:d<=64:=qo
 have hw:IntKind.i64.wrap ((d:Int)+1)=(d:Int)+1:=IntWalk.i64_in _ qo
 have hBw:¬ B=w.heap.size:=qo
 have hBw2:¬ w.heap.size=B:=qo
 clear h
 obtain ⟨u,hu⟩:=qv ((w.setCell ⟨B,2,none⟩ (.int .i64 ((d:Int)+1))).alloc (.cells #[.pointer (some ⟨B,0,none⟩)] 172))
 have HF1:=qh (FSt w B base TA tc Ts AA ac as_ X NA d u a NA nc ns) (by rw [<- hu];exact HF.out)
 have hzu:w.heap.size<u.heap.size:=HF1.out.2.1.lt
 obtain ⟨q0,q2,q3⟩:=HF1.out.door
 have HN:=qh (Calls Tryz.prog 192 #[.pointer (some ⟨B,0,none⟩)] u λe w'=>e=.returned (.agg #[.int .i64 (kd Ts a),str (tx Ts a),.int .i64 (nm Ts a),.int .i64 (of_ Ts a)])/\Below u.heap.size u w') (F_now HF1.out ha)
 have h1:pk Ts a≠[45]:=by rw [h2];decide
 have hin:=Zc9 hk.ok ha (by rw [h2];simp)
 have hE:=Zbq hk.ok k (.bin true) (d+1+1) (a+1) ns hin (by show 3+_<=k;omega)
 have HI1:=qh (∀ wx {NA':Option Addr} {nc':Nat} {ns':List Zac},FSt w B base TA tc Ts AA ac as_ X NA d wx a NA' nc' ns'->Calls Tryz.prog 245 #[.pointer (some ⟨B,0,none⟩),.string ⟨#[45]⟩] wx λe w'=>e=.returned (.bool false)/\FSt w B base TA tc Ts AA ac as_ X NA d w' a NA' nc' ns'/\Below wx.heap.size wx w') (λwx _ _ _ q=>F_is [45] qs false q qo (by simp [h1]))
 have HI2:=qh (∀ wx {NA':Option Addr} {nc':Nat} {ns':List Zac},FSt w B base TA tc Ts AA ac as_ X NA d wx a NA' nc' ns'->Calls Tryz.prog 245 #[.pointer (some ⟨B,0,none⟩),.string ⟨#[40]⟩] wx λe w'=>e=.returned (.bool true)/\FSt w B base TA tc Ts AA ac as_ X NA d w' a NA' nc' ns'/\Below wx.heap.size wx w') (λwx _ _ _ q=>F_is [40] qs true q qo (by simp [h2]))
 have HNX:=qh (∀ wx {NA':Option Addr} {nc':Nat} {ns':List Zac},FSt w B base TA tc Ts AA ac as_ X NA d wx a NA' nc' ns'->Calls Tryz.prog 193 #[.pointer (some ⟨B,0,none⟩)] wx λe w'=>∃ v,e=.returned v/\FSt w B base TA tc Ts AA ac as_ X NA d w' (a+1) NA' nc' ns'/\Only wx.heap.size [B] wx w') (λwx _ _ _ q=>F_next q qo hlen (pk_kd h2 qs))
 have HREC:=qh (∀ wx {NA':Option Addr} {nc':Nat},FSt w B base TA tc Ts AA ac as_ X NA d wx (a+1) NA' nc' ns->Calls Tryz.prog 196 #[.pointer (some ⟨B,0,none⟩)] wx (FGo w B base TA tc Ts AA ac as_ X NA d (prs Ts k (.bin true) (d+1+1) (a+1) ns))) (λwx NA' nc' q=>((ih k qo).bin true (d+1) (a+1) _ NA' nc' ns wx q.1 hin qo (by show 3+_<=k;omega)).mono (λe w' r=>FSt.igo hB q r))
 rw [prs_facP hd h2]
 cases hr:prs Ts k (.bin true) (d+1+1) (a+1) ns with
 | out=>exact absurd hr hE.1
 | bad o =>
  rw [hr] at HREC
  dsimp only
  clear h1 h2 ih hn hE hr
  generalize kd Ts a=kk at *
  generalize tx Ts a=xx at *
  generalize nm Ts a=nn at *
  generalize of_ Ts a=oo at *
  go_enter_defers Tryz.func275,Tryz.ntmps275
  go_wp2_with fail
  clear hu
  (with_reducible refine HN.out.mono ?_)
  rintro e u1 ⟨rfl,hb1⟩
  have HF2:=qh (FSt w B base TA tc Ts AA ac as_ X NA d (u1.alloc (.cells #[.int .i64 kk,str xx,.int .i64 nn,.int .i64 oo] 101)) a NA nc ns) ((HF1.out.step hb1).alloc _)
  have HTB:=qh (Own (u1.alloc (.cells #[.int .i64 kk,str xx,.int .i64 nn,.int .i64 oo] 101)) u1.heap.size 101 [.int .i64 kk,str xx,.int .i64 nn,.int .i64 oo]) (Own.new u1 101 #[_,_,_,_])
  have hz1:=hb1.size
  have HF2':=hdQ (HF1.out.step hb1)
  obtain ⟨r0,r2,r3⟩:=HF2'.out.door
  have hzw:w.heap.size<u1.heap.size:=qo
  have htb:¬ u1.heap.size=B:=qo
  clear hb1 q0 q2 q3
  go_wp2_with fail
  (with_reducible refine (HI1.out _ HF2.out).mono ?_)
  rintro e u2 ⟨rfl,hf2,hb2⟩
  have HF20:=hdQ hf2
  have HT2:=hdQ (Own.step hb2 HTB.out)
  clear r0 r2 r3 hf2 hb2
  obtain ⟨r0,r2,r3⟩:=HF20.out.door
  go_wp2_with fail
  (with_reducible refine (HI2.out _ HF20.out).mono ?_)
  rintro e u3 ⟨rfl,hf3,hb3⟩
  have HF30:=hdQ hf3
  have HT3:=hdQ (Own.step hb3 HT2.out)
  clear r0 r2 r3 hf3 hb3
  obtain ⟨r0,r2,r3⟩:=HF30.out.door
  go_wp2_with fail
  (with_reducible refine (HNX.out _ HF30.out).mono ?_)
  rintro e u4 ⟨v4,rfl,hf4,hO4⟩
  have HF40:=hdQ hf4
  have HT4:=hdQ (hO4.own HT3.out HT3.out.lt (by simpa using htb))
  clear r0 r2 r3 hf4 hO4
  obtain ⟨r0,r2,r3⟩:=HF40.out.door
  go_wp2_with fail
  (with_reducible refine (HREC.out _ HF40.out).mono ?_)
  rintro e u5 ⟨rfl,hd5⟩
  have HD:=hdQ hd5
  clear hd5
  go_wp2_with fail
  exact Zd6 HD.out
 | ok v a1 n1 =>
  rw [hr] at HREC
  dsimp only
  have h6:=hE.2 v a1 n1 hr
  have h6':a+1+1<=a1/\a1<Ts.length:=h6
  by_cases h41:pk Ts a1=[41]
  ·rw [if_pos h41]
   have HND:=qh (∀ wx {NA':Option Addr} {nc':Nat},FSt w B base TA tc Ts AA ac as_ X NA d wx a1 NA' nc' n1->Calls Tryz.prog 195 #[.pointer (some ⟨B,0,none⟩),.string ⟨#[41]⟩] wx λe w'=>e=.returned (.tuple #[])/\FSt w B base TA tc Ts AA ac as_ X NA d w' (a1+1) NA' nc' n1) (λwx NA' nc' q=>by have:=I_need [41] wx q.1 h6'.2 hlen qs;rw [show decide (pk Ts a1=[41])=true by simp [h41]] at this;exact this.mono (λe w' r=>⟨r.2.1,q.next r.2.2 r.1⟩))
   clear h1 h2 ih hn hE hr h6 h41
   generalize kd Ts a=kk at *
   generalize tx Ts a=xx at *
   generalize nm Ts a=nn at *
   generalize of_ Ts a=oo at *
   go_enter_defers Tryz.func275,Tryz.ntmps275
   go_wp2_with fail
   clear hu
   (with_reducible refine HN.out.mono ?_)
   rintro e u1 ⟨rfl,hb1⟩
   have HF2:=qh (FSt w B base TA tc Ts AA ac as_ X NA d (u1.alloc (.cells #[.int .i64 kk,str xx,.int .i64 nn,.int .i64 oo] 101)) a NA nc ns) ((HF1.out.step hb1).alloc _)
   have HTB:=qh (Own (u1.alloc (.cells #[.int .i64 kk,str xx,.int .i64 nn,.int .i64 oo] 101)) u1.heap.size 101 [.int .i64 kk,str xx,.int .i64 nn,.int .i64 oo]) (Own.new u1 101 #[_,_,_,_])
   have hz1:=hb1.size
   have HF2':=hdQ (HF1.out.step hb1)
   obtain ⟨r0,r2,r3⟩:=HF2'.out.door
   have hzw:w.heap.size<u1.heap.size:=qo
   have htb:¬ u1.heap.size=B:=qo
   clear hb1 q0 q2 q3
   go_wp2_with fail
   (with_reducible refine (HI1.out _ HF2.out).mono ?_)
   rintro e u2 ⟨rfl,hf2,hb2⟩
   have HF20:=hdQ hf2
   have HT2:=hdQ (Own.step hb2 HTB.out)
   clear r0 r2 r3 hf2 hb2
   obtain ⟨r0,r2,r3⟩:=HF20.out.door
   go_wp2_with fail
   (with_reducible refine (HI2.out _ HF20.out).mono ?_)
   rintro e u3 ⟨rfl,hf3,hb3⟩
   have HF30:=hdQ hf3
   have HT3:=hdQ (Own.step hb3 HT2.out)
   clear r0 r2 r3 hf3 hb3
   obtain ⟨r0,r2,r3⟩:=HF30.out.door
   go_wp2_with fail
   (with_reducible refine (HNX.out _ HF30.out).mono ?_)
   rintro e u4 ⟨v4,rfl,hf4,hO4⟩
   have HF40:=hdQ hf4
   have HT4:=hdQ (hO4.own HT3.out HT3.out.lt (by simpa using htb))
   clear r0 r2 r3 hf4 hO4
   obtain ⟨r0,r2,r3⟩:=HF40.out.door
   go_wp2_with fail
   (with_reducible refine (HREC.out _ HF40.out).mono ?_)
   rintro e u5 ⟨NA5,nc5,rfl,hf5⟩
   have HF50:=hdQ hf5
   clear r0 r2 r3 hf5
   obtain ⟨r0,r2,r3⟩:=HF50.out.door
   go_wp2_with fail
   (with_reducible refine (HND.out _ HF50.out).mono ?_)
   rintro e u6 ⟨rfl,hf6⟩
   have HF9:=hdQ hf6
   clear hf6
   go_wp2_with fail
   refine F_doorOk ?_ hd2 HF9.out
   simp [results,Tryz.results275,go_sem]
  ·rw [if_neg h41]
   have HND:=qh (∀ wx {NA':Option Addr} {nc':Nat},FSt w B base TA tc Ts AA ac as_ X NA d wx a1 NA' nc' n1->Calls Tryz.prog 195 #[.pointer (some ⟨B,0,none⟩),.string ⟨#[41]⟩] wx λe w'=>e=.panicked (rej (of_ Ts a1))/\FD w B NA w') (λwx NA' nc' q=>by have:=I_need [41] wx q.1 h6'.2 hlen qs;rw [show decide (pk Ts a1=[41])=false by simp [h41]] at this;exact this.mono (λe w' r=>⟨r.2.1,q.bad hB r.2.2 (r.1.mono' (λx hx=>by simp at hx;simp [hx]))⟩))
   clear h1 h2 ih hn hE hr h6 h41
   generalize of_ Ts a1=off at *
   generalize kd Ts a=kk at *
   generalize tx Ts a=xx at *
   generalize nm Ts a=nn at *
   generalize of_ Ts a=oo at *
   go_enter_defers Tryz.func275,Tryz.ntmps275
   go_wp2_with fail
   clear hu
   (with_reducible refine HN.out.mono ?_)
   rintro e u1 ⟨rfl,hb1⟩
   have HF2:=qh (FSt w B base TA tc Ts AA ac as_ X NA d (u1.alloc (.cells #[.int .i64 kk,str xx,.int .i64 nn,.int .i64 oo] 101)) a NA nc ns) ((HF1.out.step hb1).alloc _)
   have HTB:=qh (Own (u1.alloc (.cells #[.int .i64 kk,str xx,.int .i64 nn,.int .i64 oo] 101)) u1.heap.size 101 [.int .i64 kk,str xx,.int .i64 nn,.int .i64 oo]) (Own.new u1 101 #[_,_,_,_])
   have hz1:=hb1.size
   have HF2':=hdQ (HF1.out.step hb1)
   obtain ⟨r0,r2,r3⟩:=HF2'.out.door
   have hzw:w.heap.size<u1.heap.size:=qo
   have htb:¬ u1.heap.size=B:=qo
   clear hb1 q0 q2 q3
   go_wp2_with fail
   (with_reducible refine (HI1.out _ HF2.out).mono ?_)
   rintro e u2 ⟨rfl,hf2,hb2⟩
   have HF20:=hdQ hf2
   have HT2:=hdQ (Own.step hb2 HTB.out)
   clear r0 r2 r3 hf2 hb2
   obtain ⟨r0,r2,r3⟩:=HF20.out.door
   go_wp2_with fail
   (with_reducible refine (HI2.out _ HF20.out).mono ?_)
   rintro e u3 ⟨rfl,hf3,hb3⟩
   have HF30:=hdQ hf3
   have HT3:=hdQ (Own.step hb3 HT2.out)
   clear r0 r2 r3 hf3 hb3
   obtain ⟨r0,r2,r3⟩:=HF30.out.door
   go_wp2_with fail
   (with_reducible refine (HNX.out _ HF30.out).mono ?_)
   rintro e u4 ⟨v4,rfl,hf4,hO4⟩
   have HF40:=hdQ hf4
   have HT4:=hdQ (hO4.own HT3.out HT3.out.lt (by simpa using htb))
   clear r0 r2 r3 hf4 hO4
   obtain ⟨r0,r2,r3⟩:=HF40.out.door
   go_wp2_with fail
   (with_reducible refine (HREC.out _ HF40.out).mono ?_)
   rintro e u5 ⟨NA5,nc5,rfl,hf5⟩
   have HF50:=hdQ hf5
   clear r0 r2 r3 hf5
   obtain ⟨r0,r2,r3⟩:=HF50.out.door
   go_wp2_with fail
   (with_reducible refine (HND.out _ HF50.out).mono ?_)
   rintro e u6 ⟨rfl,hd6⟩
   have HD:=hdQ hd6
   clear hd6
   go_wp2_with fail
   exact Zd6 HD.out
theorem I_prs {B base:Nat} {TA:Option Addr} {tc:Nat} {Ts:List Zaq} {AA:Option Addr} {ac:Nat} {as_:List Zaa} (hk:TokK Ts):∀ n,IPc B base TA tc Ts AA ac as_ n:=by
 intro n
 induction n using Nat.strongRecOn with
 | ind n ih =>
  refine ⟨λadd d a X NA nc ns w h ha hd hn=>I_bin hk ih add w h ha hd hn,λd a X NA nc ns w h ha hd hn=>?_,λname d a X NA nc ns w h ha hd hp hn=>I_call hk ih name w h ha hd hp hn⟩
  obtain ⟨k,rfl⟩:∃ k,n=k+1:=⟨n-1,qo⟩
  by_cases h64:64<d+1
  ·exact I_fac0 hk w h ha h64 hd
  by_cases h1:pk Ts a=[45]
  ·exact I_facM hk ih w h ha h64 h1 hn
  by_cases h2:pk Ts a=[40]
  ·exact I_facP hk ih w h ha h64 h2 hn
  by_cases h3:kd Ts a=1
  ·exact I_facN hk ih w h ha h64 h1 h2 h3 hn
  by_cases h4:kd Ts a=2
  ·by_cases hq:pk Ts (a+1)=[40]
   ·exact I_facC hk ih w h ha h64 h1 h2 h4 hq hn
   ·exact I_facV hk ih w h ha h64 h1 h2 h4 hq hn
  ·exact I_facX hk ih w h ha h64 h1 h2 h3 h4 hn
theorem T.tokKind (k n o:Int) (x:List UInt8) (w:World):(Instr.field 101 (.agg #[.int .i64 k,str x,.int .i64 n,.int .i64 o]) 0).run Tryz.prog w=.ok (.int .i64 k) w:=kr
def AInv (B base:Nat) (TA:Option Addr) (tc:Nat) (Ts:List Zaq) (X:List Nat) (R:Except Int Zae) (w:World) (k:Nat) (wr:World):Prop :=
 ∃ (AA:Option Addr) (ac:Nat) (as_:List Zaa) (a:Nat) (NA:Option Addr) (nc:Nat) (ns:List Zac) (f:Nat),Zbf wr B base TA tc Ts AA ac as_ X a 0 NA nc ns/\a<Ts.length/\f<=k/\Ts.length-a<f/\asg Ts (Zc6 Ts) f a ns as_=some R/\as_.length<=a/\Only w.heap.size [B] w wr/\(∀ x,x∈gOf NA->w.heap.size<=x)/\(∀ x,x∈gOf AA->w.heap.size<=x)
def AOut (B base:Nat) (TA:Option Addr) (tc:Nat) (Ts:List Zaq) (X:List Nat) (R:Except Int Zae) (w:World) (e:Ending) (w':World):Prop :=
 Only w.heap.size [B] w w'/\(match R with
 | .ok p=>∃ (AA:Option Addr) (ac a:Nat) (NA:Option Addr) (nc:Nat),e=.returned (.tuple #[])/\Zbf w' B base TA tc Ts AA ac p.2 X a 0 NA nc p.1/\p.2.length<=Ts.length
 | .error o=>e=.panicked (rej o)/\OwnD w' B)
set_option maxHeartbeats 4000000 in
theorem I_assignments {B base:Nat} {TA:Option Addr} {tc:Nat} {Ts:List Zaq} {X:List Nat} {R:Except Int Zae} (hk:TokK Ts) (hl2:Ts.length<=2001) (w:World)
  (h:Zbf w B base TA tc Ts none 0 [] X 0 0 none 0 []) (hR:asg Ts (Zc6 Ts) (Ts.length+1) 0 [] []=some R) :
  Calls Tryz.prog 136 #[.pointer (some ⟨B,0,none⟩)] w (AOut B base TA tc Ts X R w):=by
 have hlen:=hk.len
 have hfd:=T.tokKind
 have HIV:=qh (AInv B base TA tc Ts X R w (Ts.length+1) w) ⟨none,0,[],0,none,0,[],Ts.length+1,h,hk.ok.pos,Nat.le_refl _,qo,hR,qs,Only.refl _ _ _,λx hx=>by simp [gOf] at hx,λx hx=>by simp [gOf] at hx⟩
 clear h hR
 go_enter Tryz.func136,Tryz.ntmps136
 go_wp2_with fail
 go_loopg [2,3] (Ts.length+1) (λgg _ _ wr=>AInv B base TA tc Ts X R w gg wr)
 case atStart=>exact HIV.out
 case round =>
  obtain ⟨AA,ac,as_,a,NA,nc,ns,f,hst,ha,hf1,hf2,hR,hal,hO,hNB,hAB⟩:=hrel
  obtain ⟨wo,rfl⟩:=qe wr
  obtain ⟨f',rfl⟩:∃ f',f=f'+1:=⟨f-1,qo⟩
  have HS:=hdQ hst
  have HO:=hdQ hO
  have HNB:=hdQ hNB
  have HAB:=hdQ hAB
  have hOz:=hO.size
  have HN:=qh (CB_ Tryz.prog 192 #[.pointer (some ⟨B,0,none⟩)] wo (.agg #[.int .i64 (kd Ts a),str (tx Ts a),.int .i64 (nm Ts a),.int .i64 (of_ Ts a)])) (I_now wo hst ha)
  clear HIV hst hO hNB hAB
  by_cases hk0:kd Ts a=0
  ·have hRR:R=.ok (ns,as_):=by
    rw [asg_end hk0] at hR
    injection hR with hR
    exact hR.symm
   subst hRR
   rw [hk0] at HN
   clear hR
   generalize tx Ts a=xx at *
   generalize nm Ts a=nn at *
   generalize of_ Ts a=oo at *
   go_wp2_with fail
   (with_reducible refine HN.out.mono ?_)
   rintro e u0 ⟨rfl,hb0⟩
   have HB0:=hdQ hb0
   clear hb0
   go_wp2_with fail
   refine bodyPost_end (results_none rfl _ _ _) rfl ⟨HO.out.sub (Only.of_below HB0.out []) hOz (λx hx=>by cases hx),AA,ac,a,NA,nc,rfl,HS.out.step HB0.out,by show as_.length<=_;omega⟩
  ·have hin:=kd_in hk.ok ha hk0
   have e0:(kd Ts a==0)=false:=beq_eq_false_iff_ne.2 hk0
   have HNX:=qh (∀ wx,Below wo.heap.size wo wx->Calls Tryz.prog 193 #[.pointer (some ⟨B,0,none⟩)] wx λe w'=>e=.returned (.agg #[.int .i64 (kd Ts a),str (tx Ts a),.int .i64 (nm Ts a),.int .i64 (of_ Ts a)])/\Zbf w' B base TA tc Ts AA ac as_ X (a+1) 0 NA nc ns/\Only wx.heap.size [B] wx w') (λwx hb=>I_next wx (HS.out.step hb) ha hlen hk0)
   by_cases hk2:kd Ts a=2
   ·by_cases h61:pk Ts (a+1)=[61]
    ·have hin2:=Zc9 hk.ok hin (by rw [h61];simp)
     have hE:=Zbq hk.ok (Zc6 Ts) (.bin true) 1 (a+2) ns hin2 (by unfold Zc6;show 3+_<=_;omega)
     have HND:=qh (∀ wx,Zbf wx B base TA tc Ts AA ac as_ X (a+1) 0 NA nc ns->Calls Tryz.prog 195 #[.pointer (some ⟨B,0,none⟩),.string ⟨#[61]⟩] wx (INeed B base TA tc Ts AA ac as_ X (a+1) 0 NA nc ns true wx)) (λwx q=>by have:=I_need [61] wx q hin hlen qs;rw [show decide (pk Ts (a+1)=[61])=true by simp [h61]] at this;exact this)
     have HEX:=qh (∀ wx,Zbf wx B base TA tc Ts AA ac as_ X (a+2) 0 NA nc ns->Calls Tryz.prog 196 #[.pointer (some ⟨B,0,none⟩)] wx (IGo B base TA tc Ts AA ac as_ X 0 NA (prs Ts (Zc6 Ts) (.bin true) 1 (a+2) ns) wx)) (λwx q=>(I_prs hk (Zc6 Ts)).bin true 0 (a+2) X NA nc ns wx q hin2 qo (by unfold Zc6;show 3+_<=_;omega))
     cases hr:prs Ts (Zc6 Ts) (.bin true) 1 (a+2) ns with
     | out=>exact absurd hr hE.1
     | bad o =>
      have hRR:R=.error o:=by
       rw [asg_bad hk2 h61 hr] at hR
       injection hR with hR
       exact hR.symm
      subst hRR
      rw [hr] at HEX
      rw [hk2] at HN HNX
      clear hR hr hE h61 hk0 hk2 e0
      generalize tx Ts a=xx at *
      generalize nm Ts a=nn at *
      generalize of_ Ts a=oo at *
      go_wp2_with fail
      (with_reducible refine HN.out.mono ?_)
      rintro e u0 ⟨rfl,hb0⟩
      have HB0:=hdQ hb0
      clear hb0
      go_wp2_with fail
      (with_reducible refine (HNX.out _ HB0.out).mono ?_)
      rintro e u1 ⟨rfl,hs1,hO1⟩
      have HS1:=hdQ (hs1.alloc (.cells #[.int .i64 2,str xx,.int .i64 nn,.int .i64 oo] 101))
      have HTB1:=qh (Own (u1.alloc (.cells #[.int .i64 2,str xx,.int .i64 nn,.int .i64 oo] 101)) u1.heap.size 101 [.int .i64 2,str xx,.int .i64 nn,.int .i64 oo]) (Own.new u1 101 #[_,_,_,_])
      have hO1':Only w.heap.size [B] w u1:=(HO.out.sub (Only.of_below HB0.out []) hOz (λx hx=>by cases hx)).sub hO1 (Nat.le_trans hOz HB0.out.size) (λx hx=>.inl hx)
      have HO1:=qh (Only w.heap.size [B] w (u1.alloc (.cells #[.int .i64 2,str xx,.int .i64 nn,.int .i64 oo] 101))) (hO1'.al hO1'.size _)
      have hz1:=hO1'.size
      have htb:¬ u1.heap.size=B:=by have:=hs1.1.lt;omega
      have htb2:¬ B=u1.heap.size:=λq=>htb q.symm
      have HTN:=qh (u1.heap.size∉gOf NA/\u1.heap.size∉gOf AA) (by
       obtain ⟨cs,hg,_,_⟩:=hs1.2.nod
       exact ⟨λq=>by have:=hg.lt _ q;omega,λq=>by have:=hs1.2.ass.lt _ q;omega⟩)
      clear hs1 hO1 hO1'
      go_wp2_with fail
      (with_reducible refine (HND.out _ HS1.out).mono ?_)
      rintro e u2 ⟨hO2,rfl,hs2⟩
      have HS2:=qh (Zbf u2 B base TA tc Ts AA ac as_ X (a+2) 0 NA nc ns) hs2
      have HTB2:=hdQ (hO2.own HTB1.out HTB1.out.lt (by simpa using htb))
      have HO2:=qh (Only w.heap.size [B] w u2) (HO1.out.sub hO2 HO1.out.size (λx hx=>.inl hx))
      clear hs2 hO2
      go_wp2_with fail
      (with_reducible refine (HEX.out _ HS2.out).mono ?_)
      rintro e u3 ⟨rfl,q1,q2⟩
      have Q1:=hdQ q1
      have Q2:=qh (Only w.heap.size [B] w u3) (HO2.out.sub q2 HO2.out.size (λx hx=>by
       rcases List.mem_cons.1 hx with rfl|hx
       ·exact .inl qs
       ·exact .inr (HNB.out x hx)))
      clear q1 q2
      go_wp2_with fail
      exact ⟨rfl,Q2.out,rfl,Q1.out⟩
     | ok v a1 n1 =>
      rw [hr] at HEX
      have h6:a+2+1<=a1/\a1<Ts.length:=hE.2 v a1 n1 hr
      by_cases h59:pk Ts a1=[59]
      ·have hin4:=Zc9 hk.ok h6.2 (by rw [h59];simp)
       rw [asg_next hk2 h61 hr h59] at hR
       have HRN:=hdQ hR
       have HND2:=qh (∀ wx NA' nc',Zbf wx B base TA tc Ts AA ac as_ X a1 0 NA' nc' n1->Calls Tryz.prog 195 #[.pointer (some ⟨B,0,none⟩),.string ⟨#[59]⟩] wx (INeed B base TA tc Ts AA ac as_ X a1 0 NA' nc' n1 true wx)) (λwx NA' nc' q=>by have:=I_need [59] wx q h6.2 hlen qs;rw [show decide (pk Ts a1=[59])=true by simp [h59]] at this;exact this)
       rw [hk2] at HN HNX
       clear hR hr hE h61 hk0 hk2 e0 h59
       generalize tx Ts a=xx at *
       generalize nm Ts a=nn at *
       generalize of_ Ts a=oo at *
       go_wp2_with fail
       (with_reducible refine HN.out.mono ?_)
       rintro e u0 ⟨rfl,hb0⟩
       have HB0:=hdQ hb0
       clear hb0
       go_wp2_with fail
       (with_reducible refine (HNX.out _ HB0.out).mono ?_)
       rintro e u1 ⟨rfl,hs1,hO1⟩
       have HS1:=hdQ (hs1.alloc (.cells #[.int .i64 2,str xx,.int .i64 nn,.int .i64 oo] 101))
       have HTB1:=qh (Own (u1.alloc (.cells #[.int .i64 2,str xx,.int .i64 nn,.int .i64 oo] 101)) u1.heap.size 101 [.int .i64 2,str xx,.int .i64 nn,.int .i64 oo]) (Own.new u1 101 #[_,_,_,_])
       have hO1':Only w.heap.size [B] w u1:=(HO.out.sub (Only.of_below HB0.out []) hOz (λx hx=>by cases hx)).sub hO1 (Nat.le_trans hOz HB0.out.size) (λx hx=>.inl hx)
       have HO1:=qh (Only w.heap.size [B] w (u1.alloc (.cells #[.int .i64 2,str xx,.int .i64 nn,.int .i64 oo] 101))) (hO1'.al hO1'.size _)
       have hz1:=hO1'.size
       have htb:¬ u1.heap.size=B:=by have:=hs1.1.lt;omega
       have htb2:¬ B=u1.heap.size:=λq=>htb q.symm
       have HTN:=qh (u1.heap.size∉gOf NA/\u1.heap.size∉gOf AA) (by
        obtain ⟨cs,hg,_,_⟩:=hs1.2.nod
        exact ⟨λq=>by have:=hg.lt _ q;omega,λq=>by have:=hs1.2.ass.lt _ q;omega⟩)
       clear hs1 hO1 hO1'
       go_wp2_with fail
       (with_reducible refine (HND.out _ HS1.out).mono ?_)
       rintro e u2 ⟨hO2,rfl,hs2⟩
       have HS2:=qh (Zbf u2 B base TA tc Ts AA ac as_ X (a+2) 0 NA nc ns) hs2
       have HTB2:=hdQ (hO2.own HTB1.out HTB1.out.lt (by simpa using htb))
       have HO2:=qh (Only w.heap.size [B] w u2) (HO1.out.sub hO2 HO1.out.size (λx hx=>.inl hx))
       clear hs2 hO2
       go_wp2_with fail
       (with_reducible refine (HEX.out _ HS2.out).mono ?_)
       rintro e u3 ⟨NA3,nc3,rfl,hs3,hO3,hS3⟩
       have HS3:=qh (Zbf u3 B base TA tc Ts AA ac as_ X a1 0 NA3 nc3 n1) hs3
       have HTB3:=hdQ (hO3.own HTB2.out HTB2.out.lt (by simp only [List.mem_cons,not_or];exact ⟨htb,HTN.out.1⟩))
       have HO3:=qh (Only w.heap.size [B] w u3) (HO2.out.sub hO3 HO2.out.size (λx hx=>by
        rcases List.mem_cons.1 hx with rfl|hx
        ·exact .inl qs
        ·exact .inr (HNB.out x hx)))
       have HNB3:=qh (∀ x,x∈gOf NA3->w.heap.size<=x) (λx hx=>by
        rcases hS3 x hx with q|q
        ·exact HNB.out x q
        ·exact Nat.le_trans HO2.out.size q)
       clear hs3 hO3 hS3
       go_wp2_with fail
       (with_reducible refine (HND2.out _ _ _ HS3.out).mono ?_)
       rintro e u4 ⟨hO4,rfl,hs4⟩
       have HS4:=qh (Zbf u4 B base TA tc Ts AA ac as_ X (a1+1) 0 NA3 nc3 n1) hs4
       have HTB4:=hdQ (hO4.own HTB3.out HTB3.out.lt (by simpa using htb))
       have HO4:=qh (Only w.heap.size [B] w u4) (HO3.out.sub hO4 HO3.out.size (λx hx=>.inl hx))
       clear hs4 hO4
       obtain ⟨zB,_,_,_,_,d4,df⟩:=HS4.out.cells
       have tz4:=HTB4.out.lt
       have x1:=HTB4.out.cell 1
       (try dsimp only [List.getElem?_cons_succ,List.getElem?_cons_zero] at x1)
       have hasl:as_.length<=2001:=qo
       have hlow:=HS4.out.2.low
       have HGA:=hdQ HS4.out.2.ass
       go_wp2_with fail
       refine Zcw (S:=(λw'=>w'.cell? ⟨B,4,none⟩=some (.slice AA as_.length ac)/\w'.frozen? ⟨B,4,none⟩=false/\w'.cell? ⟨u1.heap.size,1,none⟩=some (str xx))) 15 kr (by (try dsimp only);refine ⟨?_, ?_, ?_⟩<;>(go_simp;done)) (λhHeld=>?_)
       refine tkM 0 ?_
       refine tkM 1 ?_
       refine tkM 2 ?_
       refine tkM 3 ?_
       refine tkM 4 ?_
       refine tkM 5 ?_
       refine tkM 6 ?_
       refine tkM 7 ?_
       refine tkM 8 ?_
       refine tkM 9 ?_
       refine Zag (i:=10) rfl kr (λK10 hK10=>?_)
       go_simp
       refine hK10.out _ _ (λ_=>by (try dsimp only);refine ⟨?_, ?_, ?_⟩<;>(go_simp;done)) (λhHeld10=>?_)
       have hX10:=hHeld10 qd
       refine Zag (i:=11) rfl kr (λK11 hK11=>?_)
       (refine Zea qr _ _ 60 qr (base) 106 (.agg #[.string ByteArray.empty,.int .i64 0]) 2 24 Tryz.underlying60 T.infoAss rfl qd (xs:=rAss as_) qr ?_ (ys:=rAss [(xx,v)]) qr ?_ (rAss_one _) ?_ ?_ ?_ ?_;(exact (gwx HGA.out));(exact (ltt 1));(unfold maxLen;omega);(omega);(first|omega|(simp<;>omega));rintro A' c' w2 gA)
       have hsa:=gA.2.2.2.1
       (try simp at hsa)
       have hem:=PMem.assign HS4.out.2 bll gA
       have hAA:=HS4.out.2.ass.lt
       have hAX:=HS4.out.2.apA
       have ho2:Own w2 B 174 [.slice TA Ts.length tc,.int .i64 ((a1+1:Nat):Int),.int .i64 0,.slice NA3 n1.length nc3,.slice AA as_.length ac]:=hem.2.1.own HS4.out.1 zB (λhN=>(hAX B hN).1 rfl)
       have ht2':=hem.2.1.own HTB4.out tz4 HTN.out.2
       have hb2:Only w.heap.size [B] w w2:=HO4.out.sub hem.2.1 HO4.out.size (λy hy=>.inr (HAB.out y hy))
       have HAB2:=qh (∀ x,x∈gOf A'->w.heap.size<=x) (λx hx=>by
        rcases hem.2.2 x hx with r|r
        ·exact HAB.out x r
        ·exact Nat.le_trans HO4.out.size r)
       have HO2':=hdQ ho2
       have HB5:=hdQ hb2
       have HE2:=hdQ hem.1
       have k3:=ho2.cell 4
       have kf:=ho2.frozen 4
       have kx:=ht2'.cell 1
       have kB:=ho2.lt
       have ktz:=ht2'.lt
       (try dsimp only [List.getElem?_cons_succ,List.getElem?_cons_zero] at k3 kx)
       clear gA hem ho2 hb2 ht2' hAA hAX
       refine hK11.out _ _ (λ_=>by (try dsimp only);refine ⟨?_, ?_, ?_⟩<;>(go_simp;done)) (λhHeld11=>?_)
       have hX11:=hHeld11 qd
       refine Zag (i:=12) rfl kr (λK12 hK12=>?_)
       go_simp
       refine hK12.out _ _ (λ_=>hX11) (λhHeld12=>?_)
       have hX12:=hHeld12 qd
       refine Zag (i:=13) rfl kr (λK13 hK13=>?_)
       go_simp
       refine hK13.out _ _ (λ_=>hX12) (λhHeld13=>?_)
       have hX13:=hHeld13 qd
       refine Zag (i:=14) rfl kr (λK14 hK14=>?_)
       go_simp
       refine hK14.out _ _ (λ_=>hX13) (λhHeld14=>?_)
       have hX14:=hHeld14 qd
       refine Zag (i:=15) rfl kr (λK15 hK15=>?_)
       go_simp
       refine hK15.out _ _ (λh=>absurd rfl h) (λhHeld15=>?_)
       refine Zcx kr ?_ _
       have hst:Zbf (w2.setCell ⟨B,4,none⟩ (.slice A' (as_.length+1) c')) B base TA tc Ts A' c' (as_++[(xx,v)]) X (a1+1) 0 NA3 nc3 n1:=⟨by have:=HO2'.out.set_ 4 (.slice A' (as_.length+1) c');simpa using this,HE2.out.set_ 4 _⟩
       have HSF:=hdQ hst
       have HBF:=qh (Only w.heap.size [B] w (w2.setCell ⟨B,4,none⟩ (.slice A' (as_.length+1) c'))) (Only.setCell HB5.out qs _)
       generalize w2.setCell ⟨B,4,none⟩ (.slice A' (as_.length+1) c')=w3 at *
       clear hst hX10 hX11 hX12 hX13 hX14 hHeld k3 kf kx
       go_wp2_with fail
       go_roundg (gk-1)
       case measure=>omega
       case rel=>exact ⟨A',c',as_++[(xx,v)],a1+1,NA3,nc3,n1,f',HSF.out,hin4,qo,qo,HRN.out,by simp;omega,HBF.out,HNB3.out,HAB2.out⟩
      ·have hRR:R=.error (of_ Ts a1):=by
        rw [asg_semi hk2 h61 hr h59] at hR
        injection hR with hR
        exact hR.symm
       have HND2:=qh (∀ wx NA' nc',Zbf wx B base TA tc Ts AA ac as_ X a1 0 NA' nc' n1->Calls Tryz.prog 195 #[.pointer (some ⟨B,0,none⟩),.string ⟨#[59]⟩] wx (INeed B base TA tc Ts AA ac as_ X a1 0 NA' nc' n1 false wx)) (λwx NA' nc' q=>by have:=I_need [59] wx q h6.2 hlen qs;rw [show decide (pk Ts a1=[59])=false by simp [h59]] at this;exact this)
       have HRR:=hdQ hRR
       rw [hk2] at HN HNX
       clear hR hr hE h61 hk0 hk2 e0 h59 hRR
       generalize tx Ts a=xx at *
       generalize nm Ts a=nn at *
       generalize of_ Ts a=oo at *
       go_wp2_with fail
       (with_reducible refine HN.out.mono ?_)
       rintro e u0 ⟨rfl,hb0⟩
       have HB0:=hdQ hb0
       clear hb0
       go_wp2_with fail
       (with_reducible refine (HNX.out _ HB0.out).mono ?_)
       rintro e u1 ⟨rfl,hs1,hO1⟩
       have HS1:=hdQ (hs1.alloc (.cells #[.int .i64 2,str xx,.int .i64 nn,.int .i64 oo] 101))
       have HTB1:=qh (Own (u1.alloc (.cells #[.int .i64 2,str xx,.int .i64 nn,.int .i64 oo] 101)) u1.heap.size 101 [.int .i64 2,str xx,.int .i64 nn,.int .i64 oo]) (Own.new u1 101 #[_,_,_,_])
       have hO1':Only w.heap.size [B] w u1:=(HO.out.sub (Only.of_below HB0.out []) hOz (λx hx=>by cases hx)).sub hO1 (Nat.le_trans hOz HB0.out.size) (λx hx=>.inl hx)
       have HO1:=qh (Only w.heap.size [B] w (u1.alloc (.cells #[.int .i64 2,str xx,.int .i64 nn,.int .i64 oo] 101))) (hO1'.al hO1'.size _)
       have hz1:=hO1'.size
       have htb:¬ u1.heap.size=B:=by have:=hs1.1.lt;omega
       have htb2:¬ B=u1.heap.size:=λq=>htb q.symm
       have HTN:=qh (u1.heap.size∉gOf NA/\u1.heap.size∉gOf AA) (by
        obtain ⟨cs,hg,_,_⟩:=hs1.2.nod
        exact ⟨λq=>by have:=hg.lt _ q;omega,λq=>by have:=hs1.2.ass.lt _ q;omega⟩)
       clear hs1 hO1 hO1'
       go_wp2_with fail
       (with_reducible refine (HND.out _ HS1.out).mono ?_)
       rintro e u2 ⟨hO2,rfl,hs2⟩
       have HS2:=qh (Zbf u2 B base TA tc Ts AA ac as_ X (a+2) 0 NA nc ns) hs2
       have HTB2:=hdQ (hO2.own HTB1.out HTB1.out.lt (by simpa using htb))
       have HO2:=qh (Only w.heap.size [B] w u2) (HO1.out.sub hO2 HO1.out.size (λx hx=>.inl hx))
       clear hs2 hO2
       go_wp2_with fail
       (with_reducible refine (HEX.out _ HS2.out).mono ?_)
       rintro e u3 ⟨NA3,nc3,rfl,hs3,hO3,hS3⟩
       have HS3:=qh (Zbf u3 B base TA tc Ts AA ac as_ X a1 0 NA3 nc3 n1) hs3
       have HTB3:=hdQ (hO3.own HTB2.out HTB2.out.lt (by simp only [List.mem_cons,not_or];exact ⟨htb,HTN.out.1⟩))
       have HO3:=qh (Only w.heap.size [B] w u3) (HO2.out.sub hO3 HO2.out.size (λx hx=>by
        rcases List.mem_cons.1 hx with rfl|hx
        ·exact .inl qs
        ·exact .inr (HNB.out x hx)))
       have HNB3:=qh (∀ x,x∈gOf NA3->w.heap.size<=x) (λx hx=>by
        rcases hS3 x hx with q|q
        ·exact HNB.out x q
        ·exact Nat.le_trans HO2.out.size q)
       clear hs3 hO3 hS3
       go_wp2_with fail
       (with_reducible refine (HND2.out _ _ _ HS3.out).mono ?_)
       rintro e u4 ⟨hO4,rfl,hd4⟩
       have HD:=hdQ hd4
       have HO4:=qh (Only w.heap.size [B] w u4) (HO3.out.sub hO4 HO3.out.size (λx hx=>.inl hx))
       clear hd4 hO4
       go_wp2_with fail
       rw [HRR.out]
       exact ⟨rfl,HO4.out,rfl,HD.out⟩
    ·have hRR:R=.error (of_ Ts (a+1)):=by
      rw [asg_eq hk2 h61] at hR
      injection hR with hR
      exact hR.symm
     have HRR:=hdQ hRR
     have HND:=qh (∀ wx,Zbf wx B base TA tc Ts AA ac as_ X (a+1) 0 NA nc ns->Calls Tryz.prog 195 #[.pointer (some ⟨B,0,none⟩),.string ⟨#[61]⟩] wx (INeed B base TA tc Ts AA ac as_ X (a+1) 0 NA nc ns false wx)) (λwx q=>by have:=I_need [61] wx q hin hlen qs;rw [show decide (pk Ts (a+1)=[61])=false by simp [h61]] at this;exact this)
     rw [hk2] at HN HNX
     clear hR h61 hk0 hk2 e0 hRR
     generalize tx Ts a=xx at *
     generalize nm Ts a=nn at *
     generalize of_ Ts a=oo at *
     go_wp2_with fail
     (with_reducible refine HN.out.mono ?_)
     rintro e u0 ⟨rfl,hb0⟩
     have HB0:=hdQ hb0
     clear hb0
     go_wp2_with fail
     (with_reducible refine (HNX.out _ HB0.out).mono ?_)
     rintro e u1 ⟨rfl,hs1,hO1⟩
     have HS1:=hdQ (hs1.alloc (.cells #[.int .i64 2,str xx,.int .i64 nn,.int .i64 oo] 101))
     have HTB1:=qh (Own (u1.alloc (.cells #[.int .i64 2,str xx,.int .i64 nn,.int .i64 oo] 101)) u1.heap.size 101 [.int .i64 2,str xx,.int .i64 nn,.int .i64 oo]) (Own.new u1 101 #[_,_,_,_])
     have hO1':Only w.heap.size [B] w u1:=(HO.out.sub (Only.of_below HB0.out []) hOz (λx hx=>by cases hx)).sub hO1 (Nat.le_trans hOz HB0.out.size) (λx hx=>.inl hx)
     have HO1:=qh (Only w.heap.size [B] w (u1.alloc (.cells #[.int .i64 2,str xx,.int .i64 nn,.int .i64 oo] 101))) (hO1'.al hO1'.size _)
     have hz1:=hO1'.size
     have htb:¬ u1.heap.size=B:=by have:=hs1.1.lt;omega
     have htb2:¬ B=u1.heap.size:=λq=>htb q.symm
     have HTN:=qh (u1.heap.size∉gOf NA/\u1.heap.size∉gOf AA) (by
      obtain ⟨cs,hg,_,_⟩:=hs1.2.nod
      exact ⟨λq=>by have:=hg.lt _ q;omega,λq=>by have:=hs1.2.ass.lt _ q;omega⟩)
     clear hs1 hO1 hO1'
     go_wp2_with fail
     (with_reducible refine (HND.out _ HS1.out).mono ?_)
     rintro e u2 ⟨hO2,rfl,hd2⟩
     have HD:=hdQ hd2
     have HO2:=qh (Only w.heap.size [B] w u2) (HO1.out.sub hO2 HO1.out.size (λx hx=>.inl hx))
     clear hd2 hO2
     go_wp2_with fail
     rw [HRR.out]
     exact ⟨rfl,HO2.out,rfl,HD.out⟩
   ·have hRR:R=.error (of_ Ts a):=by
     rw [asg_kind hk0 hk2] at hR
     injection hR with hR
     exact hR.symm
    subst hRR
    have e2:(kd Ts a==2)=false:=beq_eq_false_iff_ne.2 hk2
    have e2':(kd Ts a != 2)=true:=by simpa using hk2
    have HRJ:=qh (∀ wx,Calls Tryz.prog 194 #[.pointer (some ⟨B,0,none⟩),.agg #[.int .i64 (kd Ts a),str (tx Ts a),.int .i64 (nm Ts a),.int .i64 (of_ Ts a)]] wx λe w'=>e=.panicked (rej (of_ Ts a))/\Below wx.heap.size wx w') (λwx=>Zfa _ _ _ _ _ wx)
    clear hR hk0 hk2
    generalize kd Ts a=kk at *
    generalize tx Ts a=xx at *
    generalize nm Ts a=nn at *
    generalize of_ Ts a=oo at *
    go_wp2_with fail
    (with_reducible refine HN.out.mono ?_)
    rintro e u0 ⟨rfl,hb0⟩
    have HB0:=hdQ hb0
    clear hb0
    go_wp2_with fail
    (with_reducible refine (HNX.out _ HB0.out).mono ?_)
    rintro e u1 ⟨rfl,hs1,hO1⟩
    have HS1:=hdQ (hs1.alloc (.cells #[.int .i64 kk,str xx,.int .i64 nn,.int .i64 oo] 101))
    have HTB1:=qh (Own (u1.alloc (.cells #[.int .i64 kk,str xx,.int .i64 nn,.int .i64 oo] 101)) u1.heap.size 101 [.int .i64 kk,str xx,.int .i64 nn,.int .i64 oo]) (Own.new u1 101 #[_,_,_,_])
    have hO1':Only w.heap.size [B] w u1:=(HO.out.sub (Only.of_below HB0.out []) hOz (λx hx=>by cases hx)).sub hO1 (Nat.le_trans hOz HB0.out.size) (λx hx=>.inl hx)
    have HO1:=qh (Only w.heap.size [B] w (u1.alloc (.cells #[.int .i64 kk,str xx,.int .i64 nn,.int .i64 oo] 101))) (hO1'.al hO1'.size _)
    have hz1:=hO1'.size
    have htb:¬ u1.heap.size=B:=by have:=hs1.1.lt;omega
    have htb2:¬ B=u1.heap.size:=λq=>htb q.symm
    have HTN:=qh (u1.heap.size∉gOf NA/\u1.heap.size∉gOf AA) (by
     obtain ⟨cs,hg,_,_⟩:=hs1.2.nod
     exact ⟨λq=>by have:=hg.lt _ q;omega,λq=>by have:=hs1.2.ass.lt _ q;omega⟩)
    clear hs1 hO1 hO1'
    go_wp2_with fail
    (with_reducible refine (HRJ.out _).mono ?_)
    rintro e u2 ⟨rfl,hb2⟩
    have HD:=hdQ ((HS1.out.ownD).step hb2)
    have HO2:=hdQ (HO1.out.sub (Only.of_below hb2 []) HO1.out.size (λx hx=>by cases hx))
    clear hb2
    go_wp2_with fail
    exact ⟨rfl,HO2.out,rfl,HD.out⟩
def OwnM (w:World) (g:Nat) (t:TypeId) (cs:List Value):Prop:=∃ m,cs.length<=m/\w.heap[g]? = some (.cells ⟨cs⟩ t (m,m+1))
theorem OwnM.lt {w:World} {g:Nat} {t:TypeId} {cs:List Value} (h:OwnM w g t cs):g<w.heap.size:=by
 obtain ⟨m,_,h⟩:=h
 exact (Array.getElem?_eq_some_iff.1 h).1
theorem OwnM.cell {w:World} {g:Nat} {t:TypeId} {cs:List Value} (h:OwnM w g t cs) (i:Nat):w.cell? ⟨g,i,none⟩=cs[i]? := by
 obtain ⟨m,_,h⟩:=h
 simp [World.cell?,h]
theorem OwnM.frozen {w:World} {g:Nat} {t:TypeId} {cs:List Value} (h:OwnM w g t cs) {i:Nat} (hi:i<cs.length):w.frozen? ⟨g,i,none⟩=false:=by
 obtain ⟨m,hm,h⟩:=h
 simp [World.frozen?,h];omega
theorem OwnM.set_ {w:World} {g:Nat} {t:TypeId} {cs:List Value} (h:OwnM w g t cs) (i:Nat) (u:Value):OwnM (w.setCell ⟨g,i,none⟩ u) g t (cs.set i u):=by
 obtain ⟨m,hm,h⟩:=h
 refine ⟨m,by simpa using hm, ?_⟩
 simp [World.setCell,Array.getElem?_modify,h]
theorem OwnM.step {w w':World} {g:Nat} {t:TypeId} {cs:List Value} (hb:Below w.heap.size w w') (h:OwnM w g t cs):OwnM w' g t cs:=by
 have hl:=h.lt
 obtain ⟨m,hm,h⟩:=h
 exact ⟨m,hm,(hb.block g hl).trans h⟩
abbrev u8m (l:List UInt8):List Value:=l.map λb=>.int .u8 (b.toNat:Int)
theorem bytes_ofM {P:Program} (src dst e:TypeId) (l:List UInt8) (hs:P.underlying src=some .string) (hd:P.underlying dst=some (.slice e)) (he:P.underlying e=some (.int .u8)) (w:World) :
  ∃ (cap:Nat) (w1:World) (pad:List Value),(convert src dst (.string ⟨l.toArray⟩)).run P w=.ok (.slice (some ⟨w.heap.size,0,none⟩) l.length cap) w1/\OwnM w1 w.heap.size e (u8m l++pad)/\Below w.heap.size w w1/\w1.heap.size=w.heap.size+1/\l.length<=cap:=by
 refine ⟨_,_,List.replicate (grownCap w l.length 0 e-l.length) (.int .u8 0),run_bytes_of_string w src dst e ⟨l.toArray⟩ hs hd he,⟨(bytesRow ⟨l.toArray⟩ (grownCap w l.length 0 e)).size, ?_, ?_⟩, ?_, ?_, ?_⟩
 ·unfold bytesRow;simp [ByteArray.size]
 ·have:(w.drew.alloc (.cells (bytesRow ⟨l.toArray⟩ (grownCap w l.length 0 e)) e ((bytesRow ⟨l.toArray⟩ (grownCap w l.length 0 e)).size,(bytesRow ⟨l.toArray⟩ (grownCap w l.length 0 e)).size+1))).heap[w.heap.size]? = some (.cells (bytesRow ⟨l.toArray⟩ (grownCap w l.length 0 e)) e ((bytesRow ⟨l.toArray⟩ (grownCap w l.length 0 e)).size,(bytesRow ⟨l.toArray⟩ (grownCap w l.length 0 e)).size+1)):=heap_alloc_new w.drew _
  refine this.trans ?_
  have e1:bytesRow ⟨l.toArray⟩ (grownCap w l.length 0 e)=⟨u8m l++List.replicate (grownCap w l.length 0 e-l.length) (.int .u8 0)⟩:=by
   apply Array.ext'
   unfold bytesRow
   simp [ByteArray.size,u8m]
  rw [e1]
 ·exact ((Below.refl _ _).drew).alloc (Nat.le_refl _) _
 ·simp
 ·show l.length<=grownCap w l.length 0 e
  unfold grownCap Question.cut
  simp
def Zct (b:UInt8):Int:=if isSp b then 1 else if isDg b then 2 else if isLt b then 3 else if isSy b then 4 else 0
theorem isSp_nat (b:UInt8):isSp b=true↔b.toNat=32∨b.toNat=10:=by
 simp only [isSp,Bool.or_eq_true,decide_eq_true_eq]
 constructor
 ·rintro (rfl|rfl)
  ·exact .inl rfl
  ·exact .inr rfl
 ·rintro (h|h)
  ·exact .inl (UInt8.toNat_inj.1 h)
  ·exact .inr (UInt8.toNat_inj.1 h)
theorem firstIdx_sym (b:UInt8):decide ((0:Int)<=firstIdx ⟨symB.toArray⟩ b)=isSy b:=by
 unfold firstIdx
 cases hf:(List.range (ByteArray.size ⟨symB.toArray⟩)).find? λi=>(({ data:=symB.toArray }:ByteArray)[i]! == b) with
 | none =>
  have hn:isSy b=false:=isSy_no (λj hj e=>by
   have:=(List.find?_eq_none.1 hf) j (List.mem_range.2 hj)
   apply this
   have h2:({ data:=symB.toArray }:ByteArray)[j]! = b:=by
    have hj':j<({ data:=symB.toArray }:ByteArray).size:=hj
    rw [getElem!_pos ({ data:=symB.toArray }:ByteArray) j hj']
    exact (List.getElem?_eq_some_iff.1 e).2
   rw [h2];simp)
  rw [hn]
  show decide ((0:Int) <= -1)=false
  decide
 | some i =>
  have h1:=List.find?_some hf
  have h2:=List.mem_range.1 (List.mem_of_find?_eq_some hf)
  have hb:isSy b=true:=isSy_yes (k:=i) (by
   rw [getElem!_pos ({ data:=symB.toArray }:ByteArray) i h2] at h1
   have e:({ data:=symB.toArray }:ByteArray)[i]=b:=by simpa using h1
   have h3:i<symB.length:=h2
   rw [List.getElem?_eq_getElem h3]
   exact congrArg some e)
  rw [hb]
  show decide ((0:Int)<=(i:Int))=true
  simp
theorem I_sym (b:UInt8) (w:World):Calls Tryz.prog 130 #[.string ⟨#[43,45,42,47,40,41,44,61,59]⟩,.int .u8 b.toNat] w λe w'=>∃ r:Int,e=.returned (.int .i64 r)/\decide (0<=r)=isSy b/\w=w':=by
 have h68 := @run_callFunc_extern Tryz.prog 230 _ Extern.BytealgIndexByte.indexByte Tryz.func230 kr kr kr kr
 have hx:=λ(w:World)=>run_indexByte_string (P:=Tryz.prog) ⟨#[43,45,42,47,40,41,44,61,59]⟩ (b.toNat:Int) w
 have HF:=hdQ (firstIdx_sym b)
 have e:(b.toNat:Int).toNat.toUInt8=b:=qs
 rw [e] at hx
 obtain ⟨r,hr⟩:=qv (firstIdx ⟨#[43,45,42,47,40,41,44,61,59]⟩ b)
 have HR:=hdQ hr
 rw [hr] at hx
 clear hr e
 go_enter Tryz.func130,Tryz.ntmps130
 go_wp2
 go_ret
 exact ⟨r,rfl,by rw [<- HR.out];exact HF.out,rfl⟩
theorem I_kindOf (b:UInt8) (w:World):Calls Tryz.prog 239 #[.int .u8 b.toNat] w λe w'=>e=.returned (.int .i64 (Zct b))/\w=w':=by
 have HS:=hdQ (I_sym b)
 by_cases h32:b.toNat=32
 ·have HK:=qh (Zct b=1) (by unfold Zct;rw [if_pos ((isSp_nat b).2 (.inl h32))])
  have e1:((b.toNat:Int)==32)=true:=by rw [h32];rfl
  clear h32
  generalize (b.toNat:Int)=x at *
  go_enter Tryz.func239,Tryz.ntmps239
  go_wp2_with fail
  go_ret
  rw [HK.out];exact ⟨rfl,rfl⟩
 ·have e1:((b.toNat:Int)==32)=false:=by rw [beq_eq_false_iff_ne];omega
  by_cases h10:b.toNat=10
  ·have HK:=qh (Zct b=1) (by unfold Zct;rw [if_pos ((isSp_nat b).2 (.inr h10))])
   have e2:((b.toNat:Int)==10)=true:=by rw [h10];rfl
   clear h10 h32
   generalize (b.toNat:Int)=x at *
   go_enter Tryz.func239,Tryz.ntmps239
   go_wp2_with fail
   go_ret
   rw [HK.out];exact ⟨rfl,rfl⟩
  ·have e2:((b.toNat:Int)==10)=false:=by rw [beq_eq_false_iff_ne];omega
   have hsp:isSp b=false:=by
    cases h:isSp b with
    | false=>rfl
    | true=>have:=(isSp_nat b).1 h;omega
   by_cases hd:48<=b.toNat/\b.toNat<=57
   ·have HK:=qh (Zct b=2) (by unfold Zct;rw [hsp,(Zed b).2 hd];rfl)
    have d1:(48:Int)<=b.toNat:=qo
    have d2:(b.toNat:Int)<=57:=qo
    clear h10 h32 hsp hd
    generalize (b.toNat:Int)=x at *
    go_enter Tryz.func239,Tryz.ntmps239
    go_wp2_with fail
    go_ret
    rw [HK.out];exact ⟨rfl,rfl⟩
   ·have hdg:=Zf7 hd
    by_cases hl:97<=b.toNat/\b.toNat<=122
    ·have HK:=qh (Zct b=3) (by unfold Zct;rw [hsp,hdg,(isLt_nat b).2 hl];rfl)
     have l1:(97:Int)<=b.toNat:=qo
     have l2:(b.toNat:Int)<=122:=qo
     have l3:(48:Int)<=b.toNat:=qo
     have l4:¬ (b.toNat:Int)<=57:=qo
     clear h10 h32 hsp hd hdg hl
     generalize (b.toNat:Int)=x at *
     go_enter Tryz.func239,Tryz.ntmps239
     go_wp2_with fail
     go_ret
     rw [HK.out];exact ⟨rfl,rfl⟩
    ·have hlt:=isLt_not hl
     have HK:=qh (Zct b=if isSy b then 4 else 0) (by unfold Zct;rw [hsp,hdg,hlt];rfl)
     have HD:=qh (¬ (48<=(b.toNat:Int)/\(b.toNat:Int)<=57)) qo
     have HL:=qh (¬ (97<=(b.toNat:Int)/\(b.toNat:Int)<=122)) qo
     clear h10 h32 hsp hd hdg hl hlt
     generalize (b.toNat:Int)=x at *
     cases hsy:isSy b with
     | true =>
      rw [hsy] at HS HK
      rcases (show x<48∨(57<x/\x<97)∨122<x by have:=HD.out;have:=HL.out;omega) with hx|⟨hx,hx2⟩|hx
      ·have k1:¬ 48<=x:=by omega
       have k2:¬ 97<=x:=qo
       clear hx
       go_enter Tryz.func239,Tryz.ntmps239
       go_wp2_with (first|(go_at_call 130;refine (HS.out _).mono ?_;rintro e w' ⟨r,rfl,hr,rfl⟩;have hr':0<=r:=by simpa using hr)|fail)
       go_ret
       rw [HK.out];exact ⟨rfl,rfl⟩
      ·have k1:48<=x:=by omega
       have k2:¬ x<=57:=qo
       have k3:¬ 97<=x:=qo
       clear hx hx2
       go_enter Tryz.func239,Tryz.ntmps239
       go_wp2_with (first|(go_at_call 130;refine (HS.out _).mono ?_;rintro e w' ⟨r,rfl,hr,rfl⟩;have hr':0<=r:=by simpa using hr)|fail)
       go_ret
       rw [HK.out];exact ⟨rfl,rfl⟩
      ·have k1:48<=x:=by omega
       have k2:¬ x<=57:=qo
       have k3:97<=x:=qo
       have k4:¬ x<=122:=qo
       clear hx
       go_enter Tryz.func239,Tryz.ntmps239
       go_wp2_with (first|(go_at_call 130;refine (HS.out _).mono ?_;rintro e w' ⟨r,rfl,hr,rfl⟩;have hr':0<=r:=by simpa using hr)|fail)
       go_ret
       rw [HK.out];exact ⟨rfl,rfl⟩
     | false =>
      rw [hsy] at HS HK
      rcases (show x<48∨(57<x/\x<97)∨122<x by have:=HD.out;have:=HL.out;omega) with hx|⟨hx,hx2⟩|hx
      ·have k1:¬ 48<=x:=by omega
       have k2:¬ 97<=x:=qo
       clear hx
       go_enter Tryz.func239,Tryz.ntmps239
       go_wp2_with (first|(go_at_call 130;refine (HS.out _).mono ?_;rintro e w' ⟨r,rfl,hr,rfl⟩;have hr':¬ 0<=r:=by simpa using hr)|fail)
       go_ret
       rw [HK.out];exact ⟨rfl,rfl⟩
      ·have k1:48<=x:=by omega
       have k2:¬ x<=57:=qo
       have k3:¬ 97<=x:=qo
       clear hx hx2
       go_enter Tryz.func239,Tryz.ntmps239
       go_wp2_with (first|(go_at_call 130;refine (HS.out _).mono ?_;rintro e w' ⟨r,rfl,hr,rfl⟩;have hr':¬ 0<=r:=by simpa using hr)|fail)
       go_ret
       rw [HK.out];exact ⟨rfl,rfl⟩
      ·have k1:48<=x:=by omega
       have k2:¬ x<=57:=qo
       have k3:97<=x:=qo
       have k4:¬ x<=122:=qo
       clear hx
       go_enter Tryz.func239,Tryz.ntmps239
       go_wp2_with (first|(go_at_call 130;refine (HS.out _).mono ?_;rintro e w' ⟨r,rfl,hr,rfl⟩;have hr':¬ 0<=r:=by simpa using hr)|fail)
       go_ret
       rw [HK.out];exact ⟨rfl,rfl⟩
theorem I_power (k:Nat) (hk:k<=6) (w:World):Calls Tryz.prog 215 #[.int .i64 k] w λe w'=>e=.returned (.int .i64 ((10 ^ k:Nat):Int))/\w=w':=by
 go_enter Tryz.func215,Tryz.ntmps215
 go_wp2_with fail
 go_loop [3,5] (λp i=>∃ j:Nat,j<=k/\i=.int .i64 j/\p=.int .i64 ((10 ^ j:Nat):Int)) (λ_ i=>k-(RowKit.intOf i).toNat)
 case atStart=>exact ⟨0,Nat.zero_le _,rfl,rfl⟩
 case round =>
  obtain ⟨j,hj,rfl,rfl⟩:=hrel
  have hp:(10 ^ j:Nat)<=1000000:=Nat.pow_le_pow_right (n:=10) qo (show j<=6 by omega)
  have HP:=qh ((10 ^ (j+1):Nat)=10 ^ j*10) (Nat.pow_succ _ _)
  by_cases hlt:j<k
  ·obtain ⟨U,hU⟩:=qv (10 ^ j)
   have HU:=hdQ hU
   rw [hU] at hp ⊢
   clear hU
   go_wp2_with fail
   go_round
   case rel=>exact ⟨j+1,qo,qg,by rw [HP.out,HU.out];go_num⟩
   case measure=>exact qn
  ·obtain rfl:j=k:=by omega
   go_wp2_with fail
   go_ret
   exact ⟨rfl,rfl⟩
theorem I_valueOf (l:List UInt8) (hd:DG l l.length) (hl:l.length<=4) (w:World):Calls Tryz.prog 288 #[str l] w λe w'=>e=.returned (.int .i64 (valD l))/\Below w.heap.size w w':=by
 obtain ⟨cap,w1,pad,hcv,ho,hb1,hz1,hcap⟩:=bytes_ofM (P:=Tryz.prog) 9 36 5 l Tryz.underlying9 Tryz.underlying36 Tryz.underlying5 w
 have HO:=hdQ ho
 have HB1:=hdQ hb1
 have HD:=hdQ hd
 clear ho hb1 hd
 go_enter Tryz.func288,Tryz.ntmps288
 go_wp2_with fail
 clear hcv
 go_loop [3,5,9] (λv _ i=>∃ k:Nat,k<=l.length/\i=.int .i64 k/\v=.int .i64 (valD (l.take k):Int)) (λ_ _ i=>l.length-(RowKit.intOf i).toNat)
 case atStart=>exact ⟨0,Nat.zero_le _,rfl,rfl⟩
 case round =>
  obtain ⟨k,hk,rfl,rfl⟩:=hrel
  by_cases hlt:k<l.length
  ·obtain ⟨b,hb,hdb⟩:=HD.out k hlt
   have hdig:=(Zed b).1 hdb
   have hdk:DG l k:=λj hj=>HD.out j qo
   have hv:valD (l.take k)<10000:=Nat.lt_of_lt_of_le hdk.val (Nat.le_trans (Nat.pow_le_pow_right qo (show k<=4 by omega)) (Nat.le_refl _))
   have HW:=hdQ (valD_succ hb)
   have c1:w1.cell? ⟨w.heap.size,k,none⟩=some (.int .u8 (b.toNat:Int)):=by
    rw [HO.out.cell,List.getElem?_append_left (by simpa using hlt),List.getElem?_map,hb];rfl
   obtain ⟨d,hd9,hd0,hdn⟩:=dig_of hdig
   have hd2:IntKind.i64.wrap (d:Int)=d:=IntWalk.i64_in _ qo
   obtain ⟨V,hV⟩:=qv (valD (l.take k))
   have HV:=hdQ hV
   rw [hV] at hv ⊢
   have hlt':(k:Int)<l.length:=qo
   clear hV hdk hb hdb hdig
   go_wp2_with fail
   go_round
   case rel=>exact ⟨k+1,qo,qg,by rw [HW.out,HV.out,hdn];go_num⟩
   case measure=>exact qn
  ·obtain rfl:k=l.length:=by omega
   go_wp2_with fail
   go_ret
   exact ⟨rfl,HB1.out⟩
end Go.Proofs.YticdknjoapdmeaaGreatDoor
