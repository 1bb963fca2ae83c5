/- Several texts in one: TextW, BuilderW, ProgT, FlatW, FmtScnS, FmtScnI, PScnI. -/
import Derived.Test.YticdknjoapdmeaaGreatDoorMj
import Derived.Test.YticdknjoapdmeaaGreatDoorMd
import Derived.Test.YticdknjoapdmeaaGreatDoorMi
import Derived.BigQuiet
import Derived.Deep.QuietTactic
import Derived.Deep.RegionHeld3
import Derived.Lib.Builder
import Derived.Lib.AppendStr
import Derived.Test.YticdknjoapdmeaaGreatDoorMc
import Derived.Laws.IdiomStrings
import Derived.Lib.Replace
import Derived.Test.YticdknjoapdmeaaGreatDoorMf
set_option linter.unusedVariables false
set_option linter.unnecessarySimpa false
set_option linter.unusedSimpArgs false
namespace Go.Proofs.YticdknjoapdmeaaGreatDoor
set_option maxHeartbeats 32000000
set_option maxRecDepth 100000
open Go.RowKit Go.Lib
theorem nodeT1 (name:List UInt8) (num:Int) (l:List Int) (ts:List (List UInt8)):Zdd (1,name,num,l) ts=numF num:=by simp [Zdd]
theorem nodeT2 (name:List UInt8) (num:Int) (l:List Int) (ts:List (List UInt8)):Zdd (2,name,num,l) ts=name:=by simp [Zdd]
theorem nodeT3 (name:List UInt8) (num:Int) (l:List Int) (x:List UInt8):Zdd (3,name,num,l) [x]=[40,45]++x++[41]:=by simp [Zdd]
theorem nodeT8 (name:List UInt8) (num:Int) (l:List Int) (ts:List (List UInt8)):Zdd (8,name,num,l) ts=name++[40]++join ts [44,32]++[41]:=by simp [Zdd]
theorem nodeT4 (name:List UInt8) (num:Int) (l:List Int) (x y:List UInt8):Zdd (4,name,num,l) [x,y]=[40]++x++[32]++[43]++[32]++y++[41]:=by simp [Zdd,opB]
theorem nodeT5 (name:List UInt8) (num:Int) (l:List Int) (x y:List UInt8):Zdd (5,name,num,l) [x,y]=[40]++x++[32]++[45]++[32]++y++[41]:=by simp [Zdd,opB]
theorem nodeT6 (name:List UInt8) (num:Int) (l:List Int) (x y:List UInt8):Zdd (6,name,num,l) [x,y]=[40]++x++[32]++[42]++[32]++y++[41]:=by simp [Zdd,opB]
theorem nodeT7 (name:List UInt8) (num:Int) (l:List Int) (x y:List UInt8):Zdd (7,name,num,l) [x,y]=[40]++x++[32]++[47]++[32]++y++[41]:=by simp [Zdd,opB]
theorem node_num {p:Zae} (h:Zat p=true) {k:Nat} (hk:k<p.1.length) (h1:p.1[k].1=1):∃ m:Nat,p.1[k].2.2.1=m/\m<=2559999:=by
 have hh:=Zcl (Za7 h) hk
 unfold Zdb Zdc at hh
 simp only [Bool.and_eq_true] at hh
 have h2:=hh.1.1.2
 rw [if_pos h1] at h2
 have:=Zbk h2
 exact ⟨p.1[k].2.2.1.toNat,qo,qo⟩
theorem one_of {α:Type} {l:List α} (h:l.length=1):∃ x,l=[x]:=by
 match l,h with
 | [x],_=>exact ⟨x,rfl⟩
theorem two_of {α:Type} {l:List α} (h:l.length=2):∃ x y,l=[x,y]:=by
 match l,h with
 | [x,y],_=>exact ⟨x,y,rfl⟩
theorem op8_cases {op:Int} {n:Nat} (h:Zbh op n=true):(op=1/\n=0)∨(op=2/\n=0)∨(op=3/\n=1)∨(op=8/\n<=3)∨(op=4/\n=2)∨(op=5/\n=2)∨(op=6/\n=2)∨(op=7/\n=2):=by
 unfold Zbh at h
 split at h
 ·have:=of_decide_eq_true h;omega
 ·split at h
  ·have:=of_decide_eq_true h;omega
  ·split at h
   ·have:=of_decide_eq_true h;omega
   ·split at h
    ·have:=of_decide_eq_true h;omega
    ·cases h
theorem I_Join0 {A:Option Addr} {c:Nat} {sep:List UInt8} (w:World) :
  Calls Tryz.prog 45 #[.slice A 0 c,str sep] w λe w'=>e=.returned (str (join [] sep))/\Below w.heap.size w w':=by
 have HJ:=qh (∀ wx,Calls Tryz.prog 160 #[.slice A 0 c,str sep] wx λe w'=>e=.returned (str [])/\wx=w') (λwx=>(Tryz.strings_Join_none A c _ wx).mono (λe w' h=>by first|exact ⟨h.1,h.2⟩|exact ⟨h.1,h.2.symm⟩))
 go_enter Tryz.func45,Tryz.ntmps45
 go_wp2_with (first|(go_at_call 98;go_in)|(go_at_call 160;refine (HJ.out _).mono ?_;rintro e w' ⟨rfl,rfl⟩)|fail)
 go_ret
 exact ⟨by rw [join_nil];rfl,bll⟩
theorem I_symbolOf4 (w:World):Calls Tryz.prog 159 #[.int .i64 4] w λe w'=>e=.returned (str [43])/\w=w':=by
 go_enter Tryz.func159,Tryz.ntmps159
 go_wp2_with fail
 go_ret
 exact ⟨rfl,rfl⟩
theorem I_symbolOf5 (w:World):Calls Tryz.prog 159 #[.int .i64 5] w λe w'=>e=.returned (str [45])/\w=w':=by
 go_enter Tryz.func159,Tryz.ntmps159
 go_wp2_with fail
 go_ret
 exact ⟨rfl,rfl⟩
theorem I_symbolOf6 (w:World):Calls Tryz.prog 159 #[.int .i64 6] w λe w'=>e=.returned (str [42])/\w=w':=by
 go_enter Tryz.func159,Tryz.ntmps159
 go_wp2_with fail
 go_ret
 exact ⟨rfl,rfl⟩
theorem I_symbolOf7 (w:World):Calls Tryz.prog 159 #[.int .i64 7] w λe w'=>e=.returned (str [47])/\w=w':=by
 go_enter Tryz.func159,Tryz.ntmps159
 go_wp2_with fail
 go_ret
 exact ⟨rfl,rfl⟩
theorem S_text {A A2:Option Addr} {c c2:Nat} {p:Zae} (w0:World) (h:Zdl w0 A c A2 c2 p) (hv:Zat p=true) :
  ∀ f x,x<f->x<p.1.length->∀ w:World,Below w0.heap.size w0 w ->
   Calls Tryz.prog 127 #[Zbs A p.1.length c A2 p.2.length c2,.int .i64 x] w λe w'=>e=.returned (str (textP p x))/\Below w.heap.size w w':=by
 have H0:=hdQ h
 have HV:=hdQ hv
 skip
 have hl1:=Zb8 hv
 clear h hv
 intro f
 induction f with
 | zero=>intro x hx;omega
 | succ f ih =>
  intro x hxf hxn w hB
  have IH:=qh (∀ m:Nat,m<x->∀ wx,Below w.heap.size w wx->Calls Tryz.prog 127 #[Zbs A p.1.length c A2 p.2.length c2,.int .i64 m] wx λe w'=>e=.returned (str (textP p m))/\Below wx.heap.size wx w') (λm hm wx hb=>ih m qo qo wx (Below.step hb hB hB.size))
  clear ih
  have HB:=hdQ hB
  obtain ⟨b,off,AR,cr,rfl,hbh,hs,hr,x0,x1,x2,x3⟩:=H0.out.1.2.2 x hxn
  have hbw:b<w.heap.size:=Nat.lt_of_lt_of_le hbh hB.size
  have d0:=(hB.cell (p:=⟨b,off+x*4,none⟩) hbh).trans x0
  have d1:=(hB.cell (p:=⟨b,off+x*4+1,none⟩) hbh).trans x1
  have d2:=(hB.cell (p:=⟨b,off+x*4+2,none⟩) hbh).trans x2
  have d3:=(hB.cell (p:=⟨b,off+x*4+3,none⟩) hbh).trans x3
  have HR:=hdQ (RS.step hB hr)
  have HTX:=hdQ (textP_eq (Za7 HV.out) hxn)
  have HTL:=hdQ (textP_len HV.out hxn)
  have HAR:=qh (∀ t (ht:t<p.1[x].2.2.2.length),∃ m:Nat,p.1[x].2.2.2[t]=m/\m<x) (λt ht=>by
   have:=Zfo (Za7 HV.out) hxn _ (List.getElem_mem ht)
   exact ⟨p.1[x].2.2.2[t].toNat,qo,qo⟩)
  have hsh:=node_shape HV.out hxn
  have HNM:=hdQ (λh1=>node_num HV.out hxn h1)
  have HNL:=hdQ (node_name HV.out hxn)
  obtain ⟨⟨op,name,num,args⟩,hx⟩:∃ y,p.1[x]=y:=⟨_,rfl⟩
  rw [hx] at d0 d1 d2 d3 hsh HR HTX HAR HNM HNL
  (try dsimp only at d0 d1 d2 d3 hsh HR HTX HAR HNM HNL)
  rw [HTX.out] at HTL ⊢
  obtain ⟨ts,hts⟩:=qv (args.map (λa=>textP p a.toNat))
  have HTN:=qh (ts.length=args.length) (by rw [<- hts,List.length_map])
  have HTT:=qh (∀ t (h1:t<args.length) (h2:t<ts.length) (m:Nat),args[t]=m->textP p m=ts[t]) (λt h1 h2 m hm=>by subst hts;rw [List.getElem_map,hm];rfl)
  rw [hts] at HTL ⊢
  obtain ⟨TT,hTT⟩:=qv (Zdd (op,name,num,args) ts)
  rw [hTT] at HTL ⊢
  have HTE:=hdQ hTT
  clear hTT
  obtain ⟨n,hn⟩:=qv (args.length)
  rw [hn] at d3 hsh HTN
  have HN:=hdQ hn
  have hn3:n<=3:=okShape_le hsh
  have HSH:=hdQ hsh
  have i1:(x:Int)<p.1.length:=qo
  have i2:(0:Int)<=x:=qo
  have HRN:=qh (RS w 1 AR n cr (ints args)) (by rw [<- hn];exact HR.out)
  have HG0:Hid (Zah (((w.alloc (.cells #[.slice (some ⟨b,off,none⟩) p.1.length c,.slice A2 p.2.length c2] 62)).alloc (.cells #[.int .i64 op,str name,.int .i64 num,.slice AR n cr] 155)).alloc (.cells #[] 9)) (w.heap.size+1+1) 9 1 (some ⟨w.heap.size+1+1,0,none⟩) 0 0 (Zam (ts.take 0))):=hdQ (by rw [List.take_zero];exact Zah.lit_at (cs := #[]) qs rfl qs (Nat.zero_le _))
  have HP0:Hid (Own (((w.alloc (.cells #[.slice (some ⟨b,off,none⟩) p.1.length c,.slice A2 p.2.length c2] 62)).alloc (.cells #[.int .i64 op,str name,.int .i64 num,.slice AR n cr] 155)).alloc (.cells #[] 9)) w.heap.size 62 [.slice (some ⟨b,off,none⟩) p.1.length c,.slice A2 p.2.length c2]):=hdQ (Own.alloc (Own.alloc (Own.new w _ #[_,_]) _) _)
  have HQ0:Hid (Own (((w.alloc (.cells #[.slice (some ⟨b,off,none⟩) p.1.length c,.slice A2 p.2.length c2] 62)).alloc (.cells #[.int .i64 op,str name,.int .i64 num,.slice AR n cr] 155)).alloc (.cells #[] 9)) (w.heap.size+1) 155 [.int .i64 op,str name,.int .i64 num,.slice AR n cr]):=hdQ (Own.alloc (Own.at_new (cs := #[_,_,_,_]) qs) _)
  clear x0 x1 x2 x3 hs hr hx hB hsh HTX HR hts hn
  go_enter Tryz.func127,Tryz.ntmps127
  go_wp2_with fail
  go_loopw [6,8,19] (λo _ i wr=>∃ (t:Nat) (B:Option Addr) (d:Nat),t<=n/\i=.int .i64 t/\o=.slice B t d/\Zah wr (w.heap.size+1+1) 9 1 B t d (Zam (ts.take t))/\Own wr w.heap.size 62 [.slice (some ⟨b,off,none⟩) p.1.length c,.slice A2 p.2.length c2]/\Own wr (w.heap.size+1) 155 [.int .i64 op,str name,.int .i64 num,.slice AR n cr]/\Below w.heap.size w wr) (λ_ _ i _=>n-(RowKit.intOf i).toNat)
  case atStart=>exact ⟨0,_,_,Nat.zero_le _,rfl,rfl,HG0.out,HP0.out,HQ0.out,bll⟩
  case round =>
   obtain ⟨t,B,d,ht,rfl,rfl,hg,hp,hq,hb⟩:=hrel
   obtain ⟨wo,rfl⟩:=qe wr
   have hz:=hb.size
   have hl:=hp.lt
   have hlq:=hq.lt
   have hgg:=hg.lt
   have HG:=hdQ hg
   have HP:=hdQ hp
   have HQ:=hdQ hq
   have HBW:=hdQ hb
   have p0:wo.cell? ⟨w.heap.size,0,none⟩=some (.slice (some ⟨b,off,none⟩) p.1.length c):=hp.cell 0
   have p1:wo.cell? ⟨w.heap.size,1,none⟩=some (.slice A2 p.2.length c2):=hp.cell 1
   have q0:wo.cell? ⟨w.heap.size+1,0,none⟩=some (.int .i64 op):=hq.cell 0
   have q1:wo.cell? ⟨w.heap.size+1,1,none⟩=some (str name):=hq.cell 1
   have q2:wo.cell? ⟨w.heap.size+1,2,none⟩=some (.int .i64 num):=hq.cell 2
   have q3:wo.cell? ⟨w.heap.size+1,3,none⟩=some (.slice AR n cr):=hq.cell 3
   clear hg hp hq hb HG0 HP0 HQ0 d0 d1 d2 d3
   by_cases hlt:t<n
   ·obtain ⟨b2,o2,rfl,hbh2,hcell2⟩:=(RS.step HBW.out HRN.out).open_.2.2 qo
    have hta:t<args.length:=by have:=HN.out;omega
    have htt:t<ts.length:=by have:=HTN.out;omega
    have e4:wo.cell? ⟨b2,o2+t,none⟩=some (.int .i64 args[t]):=by rw [hcell2 t qo,Zdf hta]
    obtain ⟨m,hm,hmi⟩:=HAR.out t hta
    rw [hm] at e4
    have HS:=qh (Zam (ts.take (t+1))=Zam (ts.take t)++Zam [ts[t]]) (by rw [List.take_succ_eq_append_getElem htt,Za6])
    have HC:=qh (∀ wx,Below w.heap.size w wx->CB_ Tryz.prog 127 #[Zbs (some ⟨b,off,none⟩) p.1.length c A2 p.2.length c2,.int .i64 m] wx (str ts[t])) (λwx hb=>by rw [<- HTT.out t hta htt m hm];exact IH.out m hmi wx hb)
    have j1:(t:Int)<n:=qo
    generalize ts[t]=y at *
    clear hcell2 hm
    go_wp2_with fail
    refine (HC.out _ bll).mono ?_
    rintro e wA ⟨rfl,hbA⟩
    have bA:Below w.heap.size w wA:=bst hbA
    have zA:=hbA.size
    (try simp at zA)
    have HGA:=qh (Zah wA (w.heap.size+1+1) 9 1 B t d (Zam (ts.take t))) (Zah.step hbA (gwx HG.out))
    have HPA:=qh (Own wA w.heap.size 62 [.slice (some ⟨b,off,none⟩) p.1.length c,.slice A2 p.2.length c2]) (Own.step hbA (owx HP.out))
    have HQA:=qh (Own wA (w.heap.size+1) 155 [.int .i64 op,str name,.int .i64 num,.slice (some ⟨b2,o2,none⟩) n cr]) (Own.step hbA (owx HQ.out))
    have hgA2:=HGA.out.ge
    clear hbA
    go_wp2_with (at_builtin;refine wpA (w.heap.size+1+1) Tryz.underlying50 T.infoString (Zam (ts.take t)) (Zam [y]) (Zbn _) ?_ ?_ ?_;exact (gwx HGA.out);exact (ltt 1);rintro A' c' w2 gA;have g1:=gA.1;have g2:=gA.2.1;rw [<- HS.out] at g1;have HG1:=hdQ g1;have HB2:=qh (Below w.heap.size w w2) (Below.trans (Below.alloc bA qo _) (g2.mono qo));have HP2:=qh (Own w2 w.heap.size 62 [.slice (some ⟨b,off,none⟩) p.1.length c,.slice A2 p.2.length c2]) (Own.below (Own.alloc HPA.out _) g2 qo);have HQ2:=qh (Own w2 (w.heap.size+1) 155 [.int .i64 op,str name,.int .i64 num,.slice (some ⟨b2,o2,none⟩) n cr]) (Own.below (Own.alloc HQA.out _) g2 qo);clear gA g1 g2)
    go_roundw
    case rel=>exact ⟨t+1,_,_,qo,qg,rfl,HG1.out,HP2.out,HQ2.out,HB2.out⟩
    case measure=>exact qn
   ·obtain rfl:t=n:=by omega
    have HGE:=qh (Zah wo (w.heap.size+1+1) 9 1 B t d (Zam ts)) (by have:=HG.out;rw [List.take_of_length_le (by rw [HTN.out];exact Nat.le_refl _)] at this;exact this)
    have HRS:=qh (RS wo 1 B t d (Zam ts)) HGE.out.rs
    clear HG
    rcases op8_cases HSH.out with ⟨rfl,rfl⟩|⟨rfl,rfl⟩|⟨rfl,rfl⟩|⟨rfl,h3⟩|⟨rfl,rfl⟩|⟨rfl,rfl⟩|⟨rfl,rfl⟩|⟨rfl,rfl⟩
    ·obtain ⟨m,rfl,hm⟩:=HNM.out rfl
     have HC:=qh (∀ wx,Below w0.heap.size w0 wx->CB_ Tryz.prog 185 #[.int .i64 m] wx (str (numF (m:Int)))) (λwx hb=>S_FormatNumber wx hm)
     have HB0:=qh (Below w0.heap.size w0 wo) (Below.step HBW.out HB.out HB.out.size)
     have HTF:=qh (TT=numF (m:Int)) (by rw [<- HTE.out,nodeT1])
     go_wp2_with (first|(go_at_call 185;(with_reducible refine (HC.out _ HB0.out).mono ?_);rintro e wA ⟨rfl,hbA⟩)|fail)
     go_ret
     exact ⟨by rw [HTF.out];rfl,Below.step hbA HBW.out HBW.out.size⟩
    ·have HTF:=qh (TT=name) (by rw [<- HTE.out,nodeT2])
     go_wp2_with fail
     go_ret
     exact ⟨by rw [HTF.out];rfl,HBW.out⟩
    ·obtain ⟨X,rfl⟩:=one_of HTN.out
     obtain ⟨g,o3,rfl,hgl,hcell⟩:=HRS.out.open_.2.2 qo
     have e0:wo.cell? ⟨g,o3,none⟩=some (str X):=by have:=hcell 0 qo;simpa using this
     rw [<- HTE.out,nodeT3] at HTL
     have hlx:X.length<=840:=by have:=HTL.out;simp only [List.length_append,List.length_cons,List.length_nil] at this;omega
     have s1:¬ 9223372036854775807<2+X.length:=qo
     have s2:¬ 9223372036854775807<2+X.length+1:=qo
     clear hcell
     go_wp2_with fail
     go_ret
     refine ⟨?_,HBW.out⟩
     rw [<- HTE.out,nodeT3]
     show Ending.returned (Value.string ((({ data:=[40,45].toArray }:ByteArray)++{ data:=X.toArray })++{ data:=[41].toArray }))=_
     rw [Zab,Zab]
    ·rw [<- HTE.out,nodeT8] at HTL
     have HJ0:=qh ((join ts [44,32]).length<=840) (by have:=HTL.out;simp only [List.length_append,List.length_cons,List.length_nil] at this;omega)
     have HJ:=qh (∀ wx,Below wo.heap.size wo wx->CB_ Tryz.prog 22 #[.slice B t d,.string ⟨#[44,32]⟩] wx (str (join ts [44,32]))) (λwx hb=>by
      have hr:=RS.step hb HRS.out
      have ht:=HTN.out
      have hj:=HJ0.out
      subst ht;exact (S_Join (sep:=[44,32]) wx hr qo qd).mono (λe w' h=>⟨h.1,by obtain ⟨_,rfl⟩:=h;exact Below.refl _ _⟩))
     have hnl:name.length<=8:=HNL.out
     have hjl:(join ts [44,32]).length<=840:=HJ0.out
     obtain ⟨Y,hY⟩:=qv (join ts [44,32])
     rw [hY] at HJ hjl
     have HYE:=hdQ hY
     clear hY
     have s1:¬ 9223372036854775807<name.length+1:=qo
     have s2:¬ 9223372036854775807<name.length+1+Y.length:=qo
     have s3:¬ 9223372036854775807<name.length+1+Y.length+1:=qo
     clear hnl hjl
     go_wp2_with fail
     go_region_held3 (λw'=>w'.cell? ⟨w.heap.size+1,1,none⟩=some (str name))
      (first|go_keep|((try dsimp only);go_simp;done))
      (first|(go_at_call 22;(with_reducible refine (HJ.out _ bll).mono ?_);rintro e wA ⟨rfl,hbA⟩;have hzA:=hbA.size;(try simp at hzA);(refine Zai hbA (w.heap.size+1) ?_ ?_;(first|omega|(simp<;>omega));intro n0 nf0 nz0))|fail)
     all_goals
      go_wp2_with fail
      go_ret
      refine ⟨?_,bll⟩
      rw [<- HTE.out,nodeT8,HYE.out]
      show Ending.returned (Value.string (((({ data:=name.toArray }:ByteArray)++{ data:=[40].toArray })++{ data:=Y.toArray })++{ data:=[41].toArray }))=_
      rw [Zab,Zab,Zab]
    ·obtain ⟨X,Y,rfl⟩:=two_of HTN.out
     obtain ⟨g,o3,rfl,hgl,hcell⟩:=HRS.out.open_.2.2 qo
     have e0:wo.cell? ⟨g,o3,none⟩=some (str X):=by have:=hcell 0 qo;simpa using this
     have e1:wo.cell? ⟨g,o3+1,none⟩=some (str Y):=by have:=hcell 1 qo;simpa using this
     rw [<- HTE.out,nodeT4] at HTL
     have hlx:X.length+Y.length<=840:=by have:=HTL.out;simp only [List.length_append,List.length_cons,List.length_nil] at this;omega
     have s1:¬ 9223372036854775807<1+X.length:=qo
     have s2:¬ 9223372036854775807<1+X.length+1:=qo
     have s3:¬ 9223372036854775807<1+X.length+1+1:=qo
     have s4:¬ 9223372036854775807<1+X.length+1+1+1:=qo
     have s5:¬ 9223372036854775807<1+X.length+1+1+1+Y.length:=qo
     have s6:¬ 9223372036854775807<1+X.length+1+1+1+Y.length+1:=qo
     have ng1:¬ g=wo.heap.size:=qo
     clear hcell hlx
     go_wp2_with fail
     go_quiet (fail)
     go_wp2_with fail
     go_ret
     refine ⟨?_,bll⟩
     rw [<- HTE.out,nodeT4]
     show Ending.returned (Value.string ((((((({ data:=[40].toArray }:ByteArray)++{ data:=X.toArray })++{ data:=[32].toArray })++{ data:=[43].toArray })++{ data:=[32].toArray })++{ data:=Y.toArray })++{ data:=[41].toArray }))=_
     rw [Zab,Zab,Zab,Zab,Zab,Zab]
    ·obtain ⟨X,Y,rfl⟩:=two_of HTN.out
     obtain ⟨g,o3,rfl,hgl,hcell⟩:=HRS.out.open_.2.2 qo
     have e0:wo.cell? ⟨g,o3,none⟩=some (str X):=by have:=hcell 0 qo;simpa using this
     have e1:wo.cell? ⟨g,o3+1,none⟩=some (str Y):=by have:=hcell 1 qo;simpa using this
     rw [<- HTE.out,nodeT5] at HTL
     have hlx:X.length+Y.length<=840:=by have:=HTL.out;simp only [List.length_append,List.length_cons,List.length_nil] at this;omega
     have s1:¬ 9223372036854775807<1+X.length:=qo
     have s2:¬ 9223372036854775807<1+X.length+1:=qo
     have s3:¬ 9223372036854775807<1+X.length+1+1:=qo
     have s4:¬ 9223372036854775807<1+X.length+1+1+1:=qo
     have s5:¬ 9223372036854775807<1+X.length+1+1+1+Y.length:=qo
     have s6:¬ 9223372036854775807<1+X.length+1+1+1+Y.length+1:=qo
     have ng1:¬ g=wo.heap.size:=qo
     clear hcell hlx
     go_wp2_with fail
     go_quiet (fail)
     go_wp2_with fail
     go_ret
     refine ⟨?_,bll⟩
     rw [<- HTE.out,nodeT5]
     show Ending.returned (Value.string ((((((({ data:=[40].toArray }:ByteArray)++{ data:=X.toArray })++{ data:=[32].toArray })++{ data:=[45].toArray })++{ data:=[32].toArray })++{ data:=Y.toArray })++{ data:=[41].toArray }))=_
     rw [Zab,Zab,Zab,Zab,Zab,Zab]
    ·obtain ⟨X,Y,rfl⟩:=two_of HTN.out
     obtain ⟨g,o3,rfl,hgl,hcell⟩:=HRS.out.open_.2.2 qo
     have e0:wo.cell? ⟨g,o3,none⟩=some (str X):=by have:=hcell 0 qo;simpa using this
     have e1:wo.cell? ⟨g,o3+1,none⟩=some (str Y):=by have:=hcell 1 qo;simpa using this
     rw [<- HTE.out,nodeT6] at HTL
     have hlx:X.length+Y.length<=840:=by have:=HTL.out;simp only [List.length_append,List.length_cons,List.length_nil] at this;omega
     have s1:¬ 9223372036854775807<1+X.length:=qo
     have s2:¬ 9223372036854775807<1+X.length+1:=qo
     have s3:¬ 9223372036854775807<1+X.length+1+1:=qo
     have s4:¬ 9223372036854775807<1+X.length+1+1+1:=qo
     have s5:¬ 9223372036854775807<1+X.length+1+1+1+Y.length:=qo
     have s6:¬ 9223372036854775807<1+X.length+1+1+1+Y.length+1:=qo
     have ng1:¬ g=wo.heap.size:=qo
     clear hcell hlx
     go_wp2_with fail
     go_quiet (fail)
     go_wp2_with fail
     go_ret
     refine ⟨?_,bll⟩
     rw [<- HTE.out,nodeT6]
     show Ending.returned (Value.string ((((((({ data:=[40].toArray }:ByteArray)++{ data:=X.toArray })++{ data:=[32].toArray })++{ data:=[42].toArray })++{ data:=[32].toArray })++{ data:=Y.toArray })++{ data:=[41].toArray }))=_
     rw [Zab,Zab,Zab,Zab,Zab,Zab]
    ·obtain ⟨X,Y,rfl⟩:=two_of HTN.out
     obtain ⟨g,o3,rfl,hgl,hcell⟩:=HRS.out.open_.2.2 qo
     have e0:wo.cell? ⟨g,o3,none⟩=some (str X):=by have:=hcell 0 qo;simpa using this
     have e1:wo.cell? ⟨g,o3+1,none⟩=some (str Y):=by have:=hcell 1 qo;simpa using this
     rw [<- HTE.out,nodeT7] at HTL
     have hlx:X.length+Y.length<=840:=by have:=HTL.out;simp only [List.length_append,List.length_cons,List.length_nil] at this;omega
     have s1:¬ 9223372036854775807<1+X.length:=qo
     have s2:¬ 9223372036854775807<1+X.length+1:=qo
     have s3:¬ 9223372036854775807<1+X.length+1+1:=qo
     have s4:¬ 9223372036854775807<1+X.length+1+1+1:=qo
     have s5:¬ 9223372036854775807<1+X.length+1+1+1+Y.length:=qo
     have s6:¬ 9223372036854775807<1+X.length+1+1+1+Y.length+1:=qo
     have ng1:¬ g=wo.heap.size:=qo
     clear hcell hlx
     go_wp2_with fail
     go_quiet (fail)
     go_wp2_with fail
     go_ret
     refine ⟨?_,bll⟩
     rw [<- HTE.out,nodeT7]
     show Ending.returned (Value.string ((((((({ data:=[40].toArray }:ByteArray)++{ data:=X.toArray })++{ data:=[32].toArray })++{ data:=[47].toArray })++{ data:=[32].toArray })++{ data:=Y.toArray })++{ data:=[41].toArray }))=_
     rw [Zab,Zab,Zab,Zab,Zab,Zab]
theorem I_text {A A2:Option Addr} {c c2:Nat} {p:Zae} (w0:World) (h:Zdl w0 A c A2 c2 p) (hv:Zat p=true) (hta:Tab w0) :
  ∀ f x,x<f->x<p.1.length->∀ w:World,Below w0.heap.size w0 w ->
   Calls Tryz.prog 96 #[Zbs A p.1.length c A2 p.2.length c2,.int .i64 x] w λe w'=>e=.returned (str (textP p x))/\Below w.heap.size w w':=by
 have H0:=hdQ h
 have HV:=hdQ hv
 have HTA:=hdQ hta
 have hl1:=Zb8 hv
 clear h hv hta
 intro f
 induction f with
 | zero=>intro x hx;omega
 | succ f ih =>
  intro x hxf hxn w hB
  have IH:=qh (∀ m:Nat,m<x->∀ wx,Below w.heap.size w wx->Calls Tryz.prog 96 #[Zbs A p.1.length c A2 p.2.length c2,.int .i64 m] wx λe w'=>e=.returned (str (textP p m))/\Below wx.heap.size wx w') (λm hm wx hb=>ih m qo qo wx (Below.step hb hB hB.size))
  clear ih
  have HB:=hdQ hB
  obtain ⟨b,off,AR,cr,rfl,hbh,hs,hr,x0,x1,x2,x3⟩:=H0.out.1.2.2 x hxn
  have hbw:b<w.heap.size:=Nat.lt_of_lt_of_le hbh hB.size
  have d0:=(hB.cell (p:=⟨b,off+x*4,none⟩) hbh).trans x0
  have d1:=(hB.cell (p:=⟨b,off+x*4+1,none⟩) hbh).trans x1
  have d2:=(hB.cell (p:=⟨b,off+x*4+2,none⟩) hbh).trans x2
  have d3:=(hB.cell (p:=⟨b,off+x*4+3,none⟩) hbh).trans x3
  have HR:=hdQ (RS.step hB hr)
  have HTX:=hdQ (textP_eq (Za7 HV.out) hxn)
  have HTL:=hdQ (textP_len HV.out hxn)
  have HAR:=qh (∀ t (ht:t<p.1[x].2.2.2.length),∃ m:Nat,p.1[x].2.2.2[t]=m/\m<x) (λt ht=>by
   have:=Zfo (Za7 HV.out) hxn _ (List.getElem_mem ht)
   exact ⟨p.1[x].2.2.2[t].toNat,qo,qo⟩)
  have hsh:=node_shape HV.out hxn
  have HNM:=hdQ (λh1=>node_num HV.out hxn h1)
  have HNL:=hdQ (node_name HV.out hxn)
  obtain ⟨⟨op,name,num,args⟩,hx⟩:∃ y,p.1[x]=y:=⟨_,rfl⟩
  rw [hx] at d0 d1 d2 d3 hsh HR HTX HAR HNM HNL
  (try dsimp only at d0 d1 d2 d3 hsh HR HTX HAR HNM HNL)
  rw [HTX.out] at HTL ⊢
  obtain ⟨ts,hts⟩:=qv (args.map (λa=>textP p a.toNat))
  have HTN:=qh (ts.length=args.length) (by rw [<- hts,List.length_map])
  have HTT:=qh (∀ t (h1:t<args.length) (h2:t<ts.length) (m:Nat),args[t]=m->textP p m=ts[t]) (λt h1 h2 m hm=>by subst hts;rw [List.getElem_map,hm];rfl)
  rw [hts] at HTL ⊢
  obtain ⟨TT,hTT⟩:=qv (Zdd (op,name,num,args) ts)
  rw [hTT] at HTL ⊢
  have HTE:=hdQ hTT
  clear hTT
  obtain ⟨n,hn⟩:=qv (args.length)
  rw [hn] at d3 hsh HTN
  have HN:=hdQ hn
  have hn3:n<=3:=okShape_le hsh
  have HSH:=hdQ hsh
  have i1:(x:Int)<p.1.length:=qo
  have i2:(0:Int)<=x:=qo
  have HRN:=qh (RS w 1 AR n cr (ints args)) (by rw [<- hn];exact HR.out)
  have HG0:Hid (Zah (((w.alloc (.cells #[.slice (some ⟨b,off,none⟩) p.1.length c,.slice A2 p.2.length c2] 62)).alloc (.cells #[.int .i64 op,str name,.int .i64 num,.slice AR n cr] 155)).alloc (.cells #[] 9)) (w.heap.size+1+1) 9 1 (some ⟨w.heap.size+1+1,0,none⟩) 0 0 (Zam (ts.take 0))):=hdQ (by rw [List.take_zero];exact Zah.lit_at (cs := #[]) qs rfl qs (Nat.zero_le _))
  have HP0:Hid (Own (((w.alloc (.cells #[.slice (some ⟨b,off,none⟩) p.1.length c,.slice A2 p.2.length c2] 62)).alloc (.cells #[.int .i64 op,str name,.int .i64 num,.slice AR n cr] 155)).alloc (.cells #[] 9)) w.heap.size 62 [.slice (some ⟨b,off,none⟩) p.1.length c,.slice A2 p.2.length c2]):=hdQ (Own.alloc (Own.alloc (Own.new w _ #[_,_]) _) _)
  have HQ0:Hid (Own (((w.alloc (.cells #[.slice (some ⟨b,off,none⟩) p.1.length c,.slice A2 p.2.length c2] 62)).alloc (.cells #[.int .i64 op,str name,.int .i64 num,.slice AR n cr] 155)).alloc (.cells #[] 9)) (w.heap.size+1) 155 [.int .i64 op,str name,.int .i64 num,.slice AR n cr]):=hdQ (Own.alloc (Own.at_new (cs := #[_,_,_,_]) qs) _)
  clear x0 x1 x2 x3 hs hr hx hB hsh HTX HR hts hn
  go_enter Tryz.func96,Tryz.ntmps96
  go_wp2_with fail
  go_loopw [6,8,18] (λo _ i wr=>∃ (t:Nat) (B:Option Addr) (d:Nat),t<=n/\i=.int .i64 t/\o=.slice B t d/\Zah wr (w.heap.size+1+1) 9 1 B t d (Zam (ts.take t))/\Own wr w.heap.size 62 [.slice (some ⟨b,off,none⟩) p.1.length c,.slice A2 p.2.length c2]/\Own wr (w.heap.size+1) 155 [.int .i64 op,str name,.int .i64 num,.slice AR n cr]/\Below w.heap.size w wr) (λ_ _ i _=>n-(RowKit.intOf i).toNat)
  case atStart=>exact ⟨0,_,_,Nat.zero_le _,rfl,rfl,HG0.out,HP0.out,HQ0.out,bll⟩
  case round =>
   obtain ⟨t,B,d,ht,rfl,rfl,hg,hp,hq,hb⟩:=hrel
   obtain ⟨wo,rfl⟩:=qe wr
   have hz:=hb.size
   have hl:=hp.lt
   have hlq:=hq.lt
   have hgg:=hg.lt
   have HG:=hdQ hg
   have HP:=hdQ hp
   have HQ:=hdQ hq
   have HBW:=hdQ hb
   have p0:wo.cell? ⟨w.heap.size,0,none⟩=some (.slice (some ⟨b,off,none⟩) p.1.length c):=hp.cell 0
   have p1:wo.cell? ⟨w.heap.size,1,none⟩=some (.slice A2 p.2.length c2):=hp.cell 1
   have q0:wo.cell? ⟨w.heap.size+1,0,none⟩=some (.int .i64 op):=hq.cell 0
   have q1:wo.cell? ⟨w.heap.size+1,1,none⟩=some (str name):=hq.cell 1
   have q2:wo.cell? ⟨w.heap.size+1,2,none⟩=some (.int .i64 num):=hq.cell 2
   have q3:wo.cell? ⟨w.heap.size+1,3,none⟩=some (.slice AR n cr):=hq.cell 3
   clear hg hp hq hb HG0 HP0 HQ0 d0 d1 d2 d3
   by_cases hlt:t<n
   ·obtain ⟨b2,o2,rfl,hbh2,hcell2⟩:=(RS.step HBW.out HRN.out).open_.2.2 qo
    have hta:t<args.length:=by have:=HN.out;omega
    have htt:t<ts.length:=by have:=HTN.out;omega
    have e4:wo.cell? ⟨b2,o2+t,none⟩=some (.int .i64 args[t]):=by rw [hcell2 t qo,Zdf hta]
    obtain ⟨m,hm,hmi⟩:=HAR.out t hta
    rw [hm] at e4
    have HS:=qh (Zam (ts.take (t+1))=Zam (ts.take t)++Zam [ts[t]]) (by rw [List.take_succ_eq_append_getElem htt,Za6])
    have HC:=qh (∀ wx,Below w.heap.size w wx->CB_ Tryz.prog 96 #[Zbs (some ⟨b,off,none⟩) p.1.length c A2 p.2.length c2,.int .i64 m] wx (str ts[t])) (λwx hb=>by rw [<- HTT.out t hta htt m hm];exact IH.out m hmi wx hb)
    have j1:(t:Int)<n:=qo
    generalize ts[t]=y at *
    clear hcell2 hm
    go_wp2_with fail
    refine (HC.out _ bll).mono ?_
    rintro e wA ⟨rfl,hbA⟩
    have bA:Below w.heap.size w wA:=bst hbA
    have zA:=hbA.size
    (try simp at zA)
    have HGA:=qh (Zah wA (w.heap.size+1+1) 9 1 B t d (Zam (ts.take t))) (Zah.step hbA (gwx HG.out))
    have HPA:=qh (Own wA w.heap.size 62 [.slice (some ⟨b,off,none⟩) p.1.length c,.slice A2 p.2.length c2]) (Own.step hbA (owx HP.out))
    have HQA:=qh (Own wA (w.heap.size+1) 155 [.int .i64 op,str name,.int .i64 num,.slice (some ⟨b2,o2,none⟩) n cr]) (Own.step hbA (owx HQ.out))
    have hgA2:=HGA.out.ge
    clear hbA
    go_wp2_with (at_builtin;refine wpA (w.heap.size+1+1) Tryz.underlying50 T.infoString (Zam (ts.take t)) (Zam [y]) (Zbn _) ?_ ?_ ?_;exact (gwx HGA.out);exact (ltt 1);rintro A' c' w2 gA;have g1:=gA.1;have g2:=gA.2.1;rw [<- HS.out] at g1;have HG1:=hdQ g1;have HB2:=qh (Below w.heap.size w w2) (Below.trans (Below.alloc bA qo _) (g2.mono qo));have HP2:=qh (Own w2 w.heap.size 62 [.slice (some ⟨b,off,none⟩) p.1.length c,.slice A2 p.2.length c2]) (Own.below (Own.alloc HPA.out _) g2 qo);have HQ2:=qh (Own w2 (w.heap.size+1) 155 [.int .i64 op,str name,.int .i64 num,.slice (some ⟨b2,o2,none⟩) n cr]) (Own.below (Own.alloc HQA.out _) g2 qo);clear gA g1 g2)
    go_roundw
    case rel=>exact ⟨t+1,_,_,qo,qg,rfl,HG1.out,HP2.out,HQ2.out,HB2.out⟩
    case measure=>exact qn
   ·obtain rfl:t=n:=by omega
    have HGE:=qh (Zah wo (w.heap.size+1+1) 9 1 B t d (Zam ts)) (by have:=HG.out;rw [List.take_of_length_le (by rw [HTN.out];exact Nat.le_refl _)] at this;exact this)
    have HRS:=qh (RS wo 1 B t d (Zam ts)) HGE.out.rs
    clear HG
    rcases op8_cases HSH.out with ⟨rfl,rfl⟩|⟨rfl,rfl⟩|⟨rfl,rfl⟩|⟨rfl,h3⟩|⟨rfl,rfl⟩|⟨rfl,rfl⟩|⟨rfl,rfl⟩|⟨rfl,rfl⟩
    ·obtain ⟨m,rfl,hm⟩:=HNM.out rfl
     have HC:=qh (∀ wx,Below w0.heap.size w0 wx->CB_ Tryz.prog 158 #[.int .i64 m] wx (str (numF (m:Int)))) (λwx hb=>I_FormatNumber wx hm (HTA.out.step hb))
     have HB0:=qh (Below w0.heap.size w0 wo) (Below.step HBW.out HB.out HB.out.size)
     have HTF:=qh (TT=numF (m:Int)) (by rw [<- HTE.out,nodeT1])
     go_wp2_with (first|(go_at_call 158;(with_reducible refine (HC.out _ HB0.out).mono ?_);rintro e wA ⟨rfl,hbA⟩)|fail)
     go_ret
     exact ⟨by rw [HTF.out];rfl,Below.step hbA HBW.out HBW.out.size⟩
    ·have HTF:=qh (TT=name) (by rw [<- HTE.out,nodeT2])
     go_wp2_with fail
     go_ret
     exact ⟨by rw [HTF.out];rfl,HBW.out⟩
    ·obtain ⟨X,rfl⟩:=one_of HTN.out
     obtain ⟨g,o3,rfl,hgl,hcell⟩:=HRS.out.open_.2.2 qo
     have e0:wo.cell? ⟨g,o3,none⟩=some (str X):=by have:=hcell 0 qo;simpa using this
     rw [<- HTE.out,nodeT3] at HTL
     have hlx:X.length<=840:=by have:=HTL.out;simp only [List.length_append,List.length_cons,List.length_nil] at this;omega
     have s1:¬ 9223372036854775807<2+X.length:=qo
     have s2:¬ 9223372036854775807<2+X.length+1:=qo
     clear hcell
     go_wp2_with fail
     go_ret
     refine ⟨?_,HBW.out⟩
     rw [<- HTE.out,nodeT3]
     show Ending.returned (Value.string ((({ data:=[40,45].toArray }:ByteArray)++{ data:=X.toArray })++{ data:=[41].toArray }))=_
     rw [Zab,Zab]
    ·rw [<- HTE.out,nodeT8] at HTL
     have HJ0:=qh ((join ts [44,32]).length<=840) (by have:=HTL.out;simp only [List.length_append,List.length_cons,List.length_nil] at this;omega)
     have HJ:=qh (∀ wx,Below wo.heap.size wo wx->CB_ Tryz.prog 45 #[.slice B t d,.string ⟨#[44,32]⟩] wx (str (join ts [44,32]))) (λwx hb=>by
      have hr:=RS.step hb HRS.out
      have ht:=HTN.out
      have hj:=HJ0.out
      rcases Nat.eq_zero_or_pos t with h0|h0
      ·subst h0
       obtain rfl:=List.length_eq_zero_iff.1 ht
       exact I_Join0 (sep:=[44,32]) wx
      ·subst ht;exact I_Join (sep:=[44,32]) wx hr h0 qo qo)
     have hnl:name.length<=8:=HNL.out
     have hjl:(join ts [44,32]).length<=840:=HJ0.out
     obtain ⟨Y,hY⟩:=qv (join ts [44,32])
     rw [hY] at HJ hjl
     have HYE:=hdQ hY
     clear hY
     have s1:¬ 9223372036854775807<name.length+1:=qo
     have s2:¬ 9223372036854775807<name.length+1+Y.length:=qo
     have s3:¬ 9223372036854775807<name.length+1+Y.length+1:=qo
     clear hnl hjl
     go_wp2_with fail
     go_region_held3 (λw'=>w'.cell? ⟨w.heap.size+1,1,none⟩=some (str name))
      (first|go_keep|((try dsimp only);go_simp;done))
      (first|(go_at_call 45;(with_reducible refine (HJ.out _ bll).mono ?_);rintro e wA ⟨rfl,hbA⟩;have hzA:=hbA.size;(try simp at hzA);(refine Zai hbA (w.heap.size+1) ?_ ?_;(first|omega|(simp<;>omega));intro n0 nf0 nz0))|fail)
     all_goals
      go_wp2_with fail
      go_ret
      refine ⟨?_,bll⟩
      rw [<- HTE.out,nodeT8,HYE.out]
      show Ending.returned (Value.string (((({ data:=name.toArray }:ByteArray)++{ data:=[40].toArray })++{ data:=Y.toArray })++{ data:=[41].toArray }))=_
      rw [Zab,Zab,Zab]
    ·obtain ⟨X,Y,rfl⟩:=two_of HTN.out
     obtain ⟨g,o3,rfl,hgl,hcell⟩:=HRS.out.open_.2.2 qo
     have e0:wo.cell? ⟨g,o3,none⟩=some (str X):=by have:=hcell 0 qo;simpa using this
     have e1:wo.cell? ⟨g,o3+1,none⟩=some (str Y):=by have:=hcell 1 qo;simpa using this
     rw [<- HTE.out,nodeT4] at HTL
     have hlx:X.length+Y.length<=840:=by have:=HTL.out;simp only [List.length_append,List.length_cons,List.length_nil] at this;omega
     have s1:¬ 9223372036854775807<1+X.length:=qo
     have s2:¬ 9223372036854775807<1+X.length+1:=qo
     have s3:¬ 9223372036854775807<1+X.length+1+1:=qo
     have s4:¬ 9223372036854775807<1+X.length+1+1+1:=qo
     have s5:¬ 9223372036854775807<1+X.length+1+1+1+Y.length:=qo
     have s6:¬ 9223372036854775807<1+X.length+1+1+1+Y.length+1:=qo
     have ng1:¬ g=wo.heap.size:=qo
     clear hcell hlx
     go_wp2_with fail
     go_quiet ((first|(go_at_call 159;first|exact Zap (I_symbolOf4 _)|exact Zfz (I_symbolOf4 _))|fail))
     go_wp2_with fail
     go_ret
     refine ⟨?_,bll⟩
     rw [<- HTE.out,nodeT4]
     show Ending.returned (Value.string ((((((({ data:=[40].toArray }:ByteArray)++{ data:=X.toArray })++{ data:=[32].toArray })++{ data:=[43].toArray })++{ data:=[32].toArray })++{ data:=Y.toArray })++{ data:=[41].toArray }))=_
     rw [Zab,Zab,Zab,Zab,Zab,Zab]
    ·obtain ⟨X,Y,rfl⟩:=two_of HTN.out
     obtain ⟨g,o3,rfl,hgl,hcell⟩:=HRS.out.open_.2.2 qo
     have e0:wo.cell? ⟨g,o3,none⟩=some (str X):=by have:=hcell 0 qo;simpa using this
     have e1:wo.cell? ⟨g,o3+1,none⟩=some (str Y):=by have:=hcell 1 qo;simpa using this
     rw [<- HTE.out,nodeT5] at HTL
     have hlx:X.length+Y.length<=840:=by have:=HTL.out;simp only [List.length_append,List.length_cons,List.length_nil] at this;omega
     have s1:¬ 9223372036854775807<1+X.length:=qo
     have s2:¬ 9223372036854775807<1+X.length+1:=qo
     have s3:¬ 9223372036854775807<1+X.length+1+1:=qo
     have s4:¬ 9223372036854775807<1+X.length+1+1+1:=qo
     have s5:¬ 9223372036854775807<1+X.length+1+1+1+Y.length:=qo
     have s6:¬ 9223372036854775807<1+X.length+1+1+1+Y.length+1:=qo
     have ng1:¬ g=wo.heap.size:=qo
     clear hcell hlx
     go_wp2_with fail
     go_quiet ((first|(go_at_call 159;first|exact Zap (I_symbolOf5 _)|exact Zfz (I_symbolOf5 _))|fail))
     go_wp2_with fail
     go_ret
     refine ⟨?_,bll⟩
     rw [<- HTE.out,nodeT5]
     show Ending.returned (Value.string ((((((({ data:=[40].toArray }:ByteArray)++{ data:=X.toArray })++{ data:=[32].toArray })++{ data:=[45].toArray })++{ data:=[32].toArray })++{ data:=Y.toArray })++{ data:=[41].toArray }))=_
     rw [Zab,Zab,Zab,Zab,Zab,Zab]
    ·obtain ⟨X,Y,rfl⟩:=two_of HTN.out
     obtain ⟨g,o3,rfl,hgl,hcell⟩:=HRS.out.open_.2.2 qo
     have e0:wo.cell? ⟨g,o3,none⟩=some (str X):=by have:=hcell 0 qo;simpa using this
     have e1:wo.cell? ⟨g,o3+1,none⟩=some (str Y):=by have:=hcell 1 qo;simpa using this
     rw [<- HTE.out,nodeT6] at HTL
     have hlx:X.length+Y.length<=840:=by have:=HTL.out;simp only [List.length_append,List.length_cons,List.length_nil] at this;omega
     have s1:¬ 9223372036854775807<1+X.length:=qo
     have s2:¬ 9223372036854775807<1+X.length+1:=qo
     have s3:¬ 9223372036854775807<1+X.length+1+1:=qo
     have s4:¬ 9223372036854775807<1+X.length+1+1+1:=qo
     have s5:¬ 9223372036854775807<1+X.length+1+1+1+Y.length:=qo
     have s6:¬ 9223372036854775807<1+X.length+1+1+1+Y.length+1:=qo
     have ng1:¬ g=wo.heap.size:=qo
     clear hcell hlx
     go_wp2_with fail
     go_quiet ((first|(go_at_call 159;first|exact Zap (I_symbolOf6 _)|exact Zfz (I_symbolOf6 _))|fail))
     go_wp2_with fail
     go_ret
     refine ⟨?_,bll⟩
     rw [<- HTE.out,nodeT6]
     show Ending.returned (Value.string ((((((({ data:=[40].toArray }:ByteArray)++{ data:=X.toArray })++{ data:=[32].toArray })++{ data:=[42].toArray })++{ data:=[32].toArray })++{ data:=Y.toArray })++{ data:=[41].toArray }))=_
     rw [Zab,Zab,Zab,Zab,Zab,Zab]
    ·obtain ⟨X,Y,rfl⟩:=two_of HTN.out
     obtain ⟨g,o3,rfl,hgl,hcell⟩:=HRS.out.open_.2.2 qo
     have e0:wo.cell? ⟨g,o3,none⟩=some (str X):=by have:=hcell 0 qo;simpa using this
     have e1:wo.cell? ⟨g,o3+1,none⟩=some (str Y):=by have:=hcell 1 qo;simpa using this
     rw [<- HTE.out,nodeT7] at HTL
     have hlx:X.length+Y.length<=840:=by have:=HTL.out;simp only [List.length_append,List.length_cons,List.length_nil] at this;omega
     have s1:¬ 9223372036854775807<1+X.length:=qo
     have s2:¬ 9223372036854775807<1+X.length+1:=qo
     have s3:¬ 9223372036854775807<1+X.length+1+1:=qo
     have s4:¬ 9223372036854775807<1+X.length+1+1+1:=qo
     have s5:¬ 9223372036854775807<1+X.length+1+1+1+Y.length:=qo
     have s6:¬ 9223372036854775807<1+X.length+1+1+1+Y.length+1:=qo
     have ng1:¬ g=wo.heap.size:=qo
     clear hcell hlx
     go_wp2_with fail
     go_quiet ((first|(go_at_call 159;first|exact Zap (I_symbolOf7 _)|exact Zfz (I_symbolOf7 _))|fail))
     go_wp2_with fail
     go_ret
     refine ⟨?_,bll⟩
     rw [<- HTE.out,nodeT7]
     show Ending.returned (Value.string ((((((({ data:=[40].toArray }:ByteArray)++{ data:=X.toArray })++{ data:=[32].toArray })++{ data:=[47].toArray })++{ data:=[32].toArray })++{ data:=Y.toArray })++{ data:=[41].toArray }))=_
     rw [Zab,Zab,Zab,Zab,Zab,Zab]
theorem T.infoByte:(Tryz.prog.info? 5).map (λi=>(i.zero,i.size,i.bytes))=some (some (.int .u8 0),1,1):=kr
theorem T.sizeBld:∃ j,Tryz.prog.info? 130=some j/\j.size=2:=by
 have h:(Tryz.prog.info? 130).map (·.size)=some 2:=kr
 obtain ⟨j,hj,hs⟩:=Option.map_eq_some_iff.1 h
 exact ⟨j,hj,hs⟩
structure Bld (w:World) (B b:Nat) (p:Value) (A:Option Addr) (c:Nat) (bs:List Value):Prop where
 own:Own w b 130 [p,.slice A bs.length c]
 grow:Zah w B 5 1 A bs.length c bs
 ne:b∉gOf A
 le:B<=b
theorem Bld.keep {w w':World} {B b:Nat} {p:Value} {A:Option Addr} {c:Nat} {bs:List Value} (h:Bld w B b p A c bs) (hb:∀ x,x<w.heap.size->w'.heap[x]? = w.heap[x]?):Bld w' B b p A c bs :=
 ⟨(hb b h.own.lt).trans h.own,h.grow.keep (λx hx=>hb x (h.grow.lt x hx)),h.ne,h.le⟩
theorem Bld.step {w w':World} {B b:Nat} {p:Value} {A:Option Addr} {c:Nat} {bs:List Value} (hb:Below w.heap.size w w') (h:Bld w B b p A c bs):Bld w' B b p A c bs:=h.keep (λx hx=>hb.block x hx)
theorem Bld.used {w:World} {B b:Nat} {p:Value} {A:Option Addr} {c:Nat} {bs:List Value} (h:Bld w B b p A c bs) (q:Value):Bld (w.setCell ⟨b,0,none⟩ q) B b q A c bs :=
 ⟨h.own.set_ 0 q,h.grow.keep (λx hx=>Below.heap_setCell _ _ _ _ (λe=>h.ne (by simp at e;exact e ▸ hx))),h.ne,h.le⟩
theorem Bld.is {w:World} {B b:Nat} {p:Value} {A:Option Addr} {c:Nat} {bs:List Value} (h:Bld w B b p A c bs) (hp:p=.pointer none∨p=.pointer (some ⟨b,0,none⟩)):Lib.IsBuilder 130 5 B b bs w:=by
 have key:Lib.BuilderAt 130 5 B b p bs w:=⟨h.le,.slice A bs.length c,h.own,h.grow,λe=>h.ne (by cases A with|none=>cases e|some a=>simp [Value.ownBlock] at e;simp [gOf,e])⟩
 rcases hp with rfl|rfl
 ·exact .inl key
 ·exact .inr key
theorem Bld.new (w:World):Bld (w.alloc (.cells #[.pointer none,.slice none 0 0] 130)) w.heap.size w.heap.size (.pointer none) none 0 [] :=
 ⟨Own.new w _ #[_,_],Zah.nil _ _ _ _,by simp [gOf],Nat.le_refl _⟩
theorem I_copyCheck_used (b:Nat) (w:World) (h0:w.cell? ⟨b,0,none⟩=some (.pointer (some ⟨b,0,none⟩))) :
  Calls Tryz.prog 157 #[.pointer (some ⟨b,0,none⟩)] w λe w'=>e=.returned (.tuple #[])/\w'=w:=by
 obtain ⟨j,hj,_⟩:=T.sizeBld
 go_enter Tryz.func157,Tryz.ntmps157
 go_wp2
 (try rw [Lib.run_neq_ptr_same w _ Tryz.underlying128 hj])
 (try go_wp2)
 go_end0
 exact ⟨rfl,rfl⟩
theorem I_copyCheck_fresh (b:Nat) (w:World) (h0:w.cell? ⟨b,0,none⟩=some (.pointer none)) (hsh:w.shape? b=some (130,2)) (hfz:w.frozen? ⟨b,0,none⟩=false) :
  Calls Tryz.prog 157 #[.pointer (some ⟨b,0,none⟩)] w λe w'=>e=.returned (.tuple #[])/\w'=w.setCell ⟨b,0,none⟩ (.pointer (some ⟨b,0,none⟩)):=by
 obtain ⟨j,hj,hjs⟩:=T.sizeBld
 go_enter Tryz.func157,Tryz.ntmps157
 go_wp2
 rw [Lib.run_to_unsafe w ⟨b,0,none⟩ Tryz.underlying128 Tryz.underlying229 hj (by rw [hjs];decide) hsh (Nat.zero_lt_succ 1)]
 simp only [Result.andThen]
 rw [Oper.upon_value]
 go_wp2
 rw [run_callFunc_extern Tryz.func214 kr kr kr (e:=Extern.AbiNoEscape.same) kr]
 rw [Lib.run_noEscape]
 simp only [Result.andThen]
 rw [Oper.upon_value]
 go_wp2
 rw [Lib.run_from_unsafe w ⟨b,0,none⟩ Tryz.underlying229 Tryz.underlying128 hj hsh kr]
 simp only [Result.andThen]
 rw [Oper.upon_value]
 go_wp2
 go_end0
 exact ⟨rfl,rfl⟩
theorem I_copyCheck {w:World} {B b:Nat} {p:Value} {A:Option Addr} {c:Nat} {bs:List Value} (h:Bld w B b p A c bs) (hp:p=.pointer none∨p=.pointer (some ⟨b,0,none⟩)) :
  Calls Tryz.prog 157 #[.pointer (some ⟨b,0,none⟩)] w λe w'=>e=.returned (.tuple #[])/\Bld w' B b (.pointer (some ⟨b,0,none⟩)) A c bs/\Only w.heap.size [b] w w':=by
 rcases hp with rfl|rfl
 ·refine (I_copyCheck_fresh b w (h.own.cell 0) ?_ (h.own.frozen 0)).mono ?_
  ·have:=h.own
   unfold Own at this
   simp [World.shape?,this]
  ·rintro e w' ⟨rfl,rfl⟩
   exact ⟨rfl,h.used _,Only.setCell (Only.refl _ _ _) qs _⟩
 ·refine (I_copyCheck_used b w (h.own.cell 0)).mono ?_
  rintro e w' ⟨rfl,rfl⟩
  exact ⟨rfl,h,Only.refl _ _ _⟩
theorem I_WriteString {w:World} {B b:Nat} {p:Value} {A:Option Addr} {c:Nat} {bs:List Value} (l:List UInt8) (h:Bld w B b p A c bs) (hp:p=.pointer none∨p=.pointer (some ⟨b,0,none⟩)) (hlen:bs.length+l.length<=140737488355328) (hBw:B<=w.heap.size) :
  Calls Tryz.prog 95 #[.pointer (some ⟨b,0,none⟩),str l] w λe w'=>∃ A2 c2,e=.returned (.tuple #[.int .i64 l.length,.nilIface])/\Bld w' B b (.pointer (some ⟨b,0,none⟩)) A2 c2 (bs++Lib.byteCells l)/\Only w.heap.size (b::gOf A) w w':=by
 have HC:=hdQ (I_copyCheck h hp)
 have HGE:=hdQ h.grow.ge
 have hbl:=h.own.lt
 have hgl:=h.grow.lt
 have hle:=h.le
 clear h
 obtain ⟨i0,hi,hz0,hz1,hz2⟩:=info_parts T.infoByte
 go_enter Tryz.func95,Tryz.ntmps95
 go_wp2_with (first|(go_at_call 157;refine HC.out.mono ?_)|fail)
 rintro e w1 ⟨rfl,h1,hO1⟩
 have hz:=hO1.size
 have HO1:=hdQ hO1
 have c0:w1.cell? ⟨b,0,none⟩=some (.pointer (some ⟨b,0,none⟩)):=h1.own.cell 0
 have c1:w1.cell? ⟨b,1,none⟩=some (.slice A bs.length c):=h1.own.cell 1
 have HB:=hdQ h1
 clear h1 hO1
 go_wp2_with (at_builtin;refine Lib.wpList_append_own_string _ rfl _ _ 36 9 rfl B 5 i0 Tryz.underlying36 Tryz.underlying9 hi hz0 hz1 hz2 _ _ _ rfl HB.out.grow ⟨l.toArray⟩ rfl ?c3 ?c4 ?c5 ?_)
 case c3=>unfold maxLen;show bs.length+l.length<=_;omega
 case c4=>show bs.length+l.length<=_;omega
 case c5=>omega
 intro v' w2 hown' hgrow _
 obtain ⟨A2,c2,hv⟩:∃ A2 c2,v'=.slice A2 (bs.length+l.length) c2:=by
  rcases hown'.2 with ⟨hv,h0⟩|⟨g,cap,cur,hv,_⟩
  ·exact ⟨none,0,by rw [hv];congr 1;exact h0.symm⟩
  ·exact ⟨_,_,hv⟩
 subst hv
 have hsl:(Value.slice A bs.length c).ownBlock=A.map (·.block):=by cases A<;>rfl
 rw [hsl] at hgrow
 have hne2:b∉gOf A:=HB.out.ne
 have hb2:w2.heap[b]? = w1.heap[b]? := hgrow.block b qo (by cases A<;>simp_all [gOf])
 have HO2:=qh (Own w2 b 130 [.pointer (some ⟨b,0,none⟩),.slice A bs.length c]) (hb2.trans HB.out.own)
 have HG2:=qh (Zah w2 B 5 1 A2 (bs.length+l.length) c2 (bs++Lib.byteCells l)) hown'
 have d0:w2.cell? ⟨b,0,none⟩=some (.pointer (some ⟨b,0,none⟩)):=HO2.out.cell 0
 have d1:w2.cell? ⟨b,1,none⟩=some (.slice A bs.length c):=HO2.out.cell 1
 have f1:w2.frozen? ⟨b,1,none⟩=false:=HO2.out.frozen 1
 have HGR:=hdQ hgrow
 clear hgrow hb2 hown'
 go_wp2_with fail
 go_ret2
 have HG3:=HG2.out
 have hne3:b∉gOf A2:=by
  rcases HG3.shape with ⟨rfl,_⟩|⟨g,cur,rfl,_,hg,_⟩
  ·simp [gOf]
  ·intro hx
   simp [gOf] at hx
   subst hx
   have:=HO2.out
   unfold Own at this
   rw [hg] at this
   injection this with this
   injection this with _ this
   exact absurd this qd
 have hll:(bs++Lib.byteCells l).length=bs.length+l.length:=by rw [List.length_append,Lib.byteCells_length]
 refine ⟨A2,c2,rfl,⟨?_, ?_,hne3,hle⟩, ?_⟩
 ·rw [hll];exact HO2.out.set_ 1 _
 ·rw [hll];exact HG3.keep (λx hx=>Below.heap_setCell _ _ _ _ (λe=>hne3 (by simp at e;exact e ▸ hx)))
 ·refine Only.setCell ?_ qs _
  have hgb:=HGR.out
  refine ⟨hgb.os.trans HO1.out.os,hgb.tape.trans HO1.out.tape,hgb.output.trans HO1.out.output,Nat.le_trans hz hgb.size,λk hk hn=>?_⟩
  have h1:k∉gOf A:=λh=>hn (by simp [h])
  have h2:k≠b:=λh=>hn (by simp [h])
  exact (hgb.block k qo (by cases A<;>simp_all [gOf])).trans (HO1.out.block k hk (by simpa using h2))
def progF (p:Zae):List UInt8:=if Zat p then Zem p else []
theorem root_nat {p:Zae} (h:Zat p=true) {k:Nat} (hk:k<p.2.length):∃ m:Nat,p.2[k].2=m/\m<p.1.length:=by
 obtain ⟨h1,h2,h3⟩:=Zfj h hk
 exact ⟨p.2[k].2.toNat,qo,qo⟩
theorem byteCells_app (a b:List UInt8):Lib.byteCells (a++b)=Lib.byteCells a++Lib.byteCells b:=by simp [Lib.byteCells]
theorem S_FormatProgram {A A2:Option Addr} {c c2:Nat} {p:Zae} (w:World) (h:Zdl w A c A2 c2 p) (h1:p.1.length<=1048576) (h2:p.2.length<=1048576) :
  Calls Tryz.prog 66 #[Zbs A p.1.length c A2 p.2.length c2] w λe w'=>e=.returned (str (progF p))/\Below w.heap.size w w':=by
 have H0:=hdQ h
 have HV0:=qh (∀ wx,Below w.heap.size w wx->CB_ Tryz.prog 126 #[Zbs A p.1.length c A2 p.2.length c2] wx (.bool (Zat p))) (λwx hb=>S_IsValidProgram wx (h.step hb) h1 h2)
 clear h
 unfold progF
 cases hv:Zat p with
 | false =>
  rw [hv] at HV0
  go_enter Tryz.func66,Tryz.ntmps66
  go_wp2_with (first|(go_at_call 126;refine (HV0.out _ bll).mono ?_;rintro e w1 ⟨rfl,hb1⟩;have HB1:=bh w hb1;clear hb1)|fail)
  go_ret
  exact ⟨rfl,HB1.out⟩
 | true =>
  have HV:=hdQ hv
  have HTX:=qh (∀ m:Nat,m<p.1.length->∀ wx,Below w.heap.size w wx->CB_ Tryz.prog 127 #[Zbs A p.1.length c A2 p.2.length c2,.int .i64 m] wx (str (textP p m))) (λm hm wx hb=>S_text w H0.out hv p.1.length m hm hm wx hb)
  have hl2:=Zbw hv
  rw [hv] at HV0
  clear hv
  go_enter Tryz.func66,Tryz.ntmps66
  go_wp2_with (first|(go_at_call 126;refine (HV0.out _ bll).mono ?_;rintro e w1 ⟨rfl,hb1⟩;have hz1:=hb1.size;(try simp at hz1);have HB1:=bh w hb1;have HP1:=qh (Own w1 w.heap.size 62 [.slice A p.1.length c,.slice A2 p.2.length c2]) (Own.step hb1 (Own.new w _ #[_,_]));have r0:w1.cell? ⟨w.heap.size,0,none⟩=some (.slice A p.1.length c):=HP1.out.cell 0;have r1:w1.cell? ⟨w.heap.size,1,none⟩=some (.slice A2 p.2.length c2):=HP1.out.cell 1;clear hb1)|fail)
  go_loopw [3,5,12] (λs _ i wr=>∃ k:Nat,k<=p.2.length/\i=.int .i64 k/\s=str (progTo p k)/\Own wr w.heap.size 62 [.slice A p.1.length c,.slice A2 p.2.length c2]/\Below w.heap.size w wr) (λ_ _ i _=>p.2.length-(RowKit.intOf i).toNat)
  case atStart=>exact ⟨0,Nat.zero_le _,rfl,rfl,HP1.out,HB1.out⟩
  case round =>
   obtain ⟨k,hk,rfl,rfl,hp,hb⟩:=hrel
   obtain ⟨wo,rfl⟩:=qe wr
   have hz:=hb.size
   have hl:=hp.lt
   have HP:=hdQ hp
   have HB:=hdQ hb
   have p0:wo.cell? ⟨w.heap.size,0,none⟩=some (.slice A p.1.length c):=hp.cell 0
   have p1:wo.cell? ⟨w.heap.size,1,none⟩=some (.slice A2 p.2.length c2):=hp.cell 1
   clear hp hb r0 r1 HP1 HB1
   by_cases hlt:k<p.2.length
   ·obtain ⟨b,o,rfl,hbh,hs,x0,x1⟩:=H0.out.2.2.2 k hlt
    have d0:=(HB.out.cell (p:=⟨b,o+k*2,none⟩) hbh).trans x0
    have d1:=(HB.out.cell (p:=⟨b,o+k*2+1,none⟩) hbh).trans x1
    obtain ⟨m,hm,hmn⟩:=root_nat HV.out hlt
    have HTS:=hdQ (progTo_succ hlt)
    have HL1:=hdQ (progTo_len HV.out k qo)
    have HL2:=hdQ (assT_len HV.out hlt)
    have HCT:=qh (∀ wx,Below w.heap.size w wx->CB_ Tryz.prog 127 #[Zbs A p.1.length c (some ⟨b,o,none⟩) p.2.length c2,.int .i64 m] wx (str (textP p m))) (λwx hb=>HTX.out m hmn wx hb)
    obtain ⟨⟨nm,rt⟩,hx⟩:∃ x,p.2[k]=x:=⟨_,rfl⟩
    rw [hx] at d0 d1 hm hs HTS HL2
    (try dsimp only at d0 d1 hm hs)
    subst hm
    have HAS:=qh (assT p (nm,(m:Int))=nm++[32,61,32]++textP p m++[59,10]) rfl
    have i0:(k:Int)<p.2.length:=qo
    have i00:(0:Int)<=k:=qo
    generalize textP p m=Y at *
    generalize progTo p k=X at *
    have hL:X.length<=60000:=by have:=HL1.out;omega
    have hL2:nm.length+3+Y.length+2<=853:=by have:=HL2.out;rw [HAS.out] at this;simp only [List.length_append,List.length_cons,List.length_nil] at this;omega
    have s1:¬ 9223372036854775807<X.length+nm.length:=qo
    have s2:¬ 9223372036854775807<X.length+nm.length+3:=qo
    have s3:¬ 9223372036854775807<X.length+nm.length+3+Y.length:=qo
    have s4:¬ 9223372036854775807<X.length+nm.length+3+Y.length+2:=qo
    clear x0 x1 hs hx hL hL2
    go_wp2_with fail
    go_region_held3 (λw'=>w'.cell? ⟨wo.heap.size,0,none⟩=some (str nm)/\w'.cell? ⟨wo.heap.size,1,none⟩=some (.int .i64 m)/\w'.cell? ⟨w.heap.size,0,none⟩=some (.slice A p.1.length c)/\w'.cell? ⟨w.heap.size,1,none⟩=some (.slice (some ⟨b,o,none⟩) p.2.length c2))
     (first|go_keep|((try dsimp only);refine ⟨?_, ?_, ?_, ?_⟩<;>(go_simp;done)))
     (first|(go_at_call 127;(with_reducible refine (HCT.out _ bll).mono ?_);rintro e wA ⟨rfl,hbA⟩;have hzA:=hbA.size;(try simp at hzA);(refine Zai hbA (wo.heap.size) ?_ ?_;(first|omega|(simp<;>omega));intro n0 nf0 nz0);(refine Zai hbA (w.heap.size) ?_ ?_;(first|omega|(simp<;>omega));intro m0 mf0 mz0))|fail)
    all_goals
     go_wp2_with fail
     go_roundw
     case rel =>
      refine ⟨k+1,qo,qg, ?_,(owx HP.out),bll⟩
      rw [HTS.out,HAS.out]
      show Value.string ((((({ data:=X.toArray }:ByteArray)++{ data:=nm.toArray })++{ data:=[32,61,32].toArray })++{ data:=Y.toArray })++{ data:=[59,10].toArray })=_
      rw [Zab,Zab,Zab,Zab]
      simp only [List.append_assoc]
     case measure=>exact qn
   ·obtain rfl:k=p.2.length:=by omega
    go_wp2_with fail
    go_ret
    exact ⟨rfl,HB.out⟩
theorem I_FormatProgram {A A2:Option Addr} {c c2:Nat} {p:Zae} (w:World) (h:Zdl w A c A2 c2 p) (h1:p.1.length<=1048576) (h2:p.2.length<=1048576) (hta:Tab w) :
  Calls Tryz.prog 44 #[Zbs A p.1.length c A2 p.2.length c2] w λe w'=>e=.returned (str (progF p))/\Below w.heap.size w w':=by
 have H0:=hdQ h
 have HV0:=qh (∀ wx,Below w.heap.size w wx->CB_ Tryz.prog 94 #[Zbs A p.1.length c A2 p.2.length c2] wx (.bool (Zat p))) (λwx hb=>I_IsValidProgram wx (h.step hb) h1 h2)
 clear h
 unfold progF
 cases hv:Zat p with
 | false =>
  rw [hv] at HV0
  go_enter Tryz.func44,Tryz.ntmps44
  go_wp2_with (first|(go_at_call 94;refine (HV0.out _ bll).mono ?_;rintro e w1 ⟨rfl,hb1⟩;have HB1:=bh w hb1;clear hb1)|fail)
  go_ret
  exact ⟨rfl,HB1.out⟩
 | true =>
  have HV:=hdQ hv
  have HTX:=qh (∀ m:Nat,m<p.1.length->∀ wx,Below w.heap.size w wx->CB_ Tryz.prog 96 #[Zbs A p.1.length c A2 p.2.length c2,.int .i64 m] wx (str (textP p m))) (λm hm wx hb=>I_text w H0.out hv hta p.1.length m hm hm wx hb)
  have hl2:=Zbw hv
  rw [hv] at HV0
  clear hv hta
  go_enter Tryz.func44,Tryz.ntmps44
  go_wp2_with (first|(go_at_call 94;refine (HV0.out _ bll).mono ?_;rintro e w1 ⟨rfl,hb1⟩;have hz1:=hb1.size;(try simp at hz1);have HB1:=bh w hb1;have HP1:=qh (Own w1 w.heap.size 62 [.slice A p.1.length c,.slice A2 p.2.length c2]) (Own.step hb1 (Own.new w _ #[_,_]));have r0:w1.cell? ⟨w.heap.size,0,none⟩=some (.slice A p.1.length c):=HP1.out.cell 0;have r1:w1.cell? ⟨w.heap.size,1,none⟩=some (.slice A2 p.2.length c2):=HP1.out.cell 1;have lt1:w.heap.size<w1.heap.size:=qo;have n1:¬ w.heap.size=w1.heap.size:=qo;clear hb1)|fail)
  go_loopw [5,12] (λ_ i wr=>∃ (k:Nat) (q:Value) (A3:Option Addr) (c3:Nat),k<=p.2.length/\i=.int .i64 k/\(q=.pointer none∨q=.pointer (some ⟨w1.heap.size,0,none⟩))/\Bld wr w1.heap.size w1.heap.size q A3 c3 (Lib.byteCells (progTo p k))/\Own wr w.heap.size 62 [.slice A p.1.length c,.slice A2 p.2.length c2]/\Below w.heap.size w wr) (λ_ i _=>p.2.length-(RowKit.intOf i).toNat)
  case atStart=>exact ⟨0,_,_,_,Nat.zero_le _,rfl,.inl rfl,Bld.new w1,(owx HP1.out),bll⟩
  case round =>
   obtain ⟨k,q,A3,c3,hk,rfl,hq,hbl,hp,hb⟩:=hrel
   obtain ⟨wo,rfl⟩:=qe wr
   have hz:=hb.size
   have hl:=hp.lt
   have hbb:=hbl.own.lt
   have hgl:=hbl.grow.lt
   have hgg:=hbl.grow.ge
   have HP:=hdQ hp
   have HB:=hdQ hb
   have HBL:=hdQ hbl
   have p0:wo.cell? ⟨w.heap.size,0,none⟩=some (.slice A p.1.length c):=hp.cell 0
   have p1:wo.cell? ⟨w.heap.size,1,none⟩=some (.slice A2 p.2.length c2):=hp.cell 1
   clear hp hb hbl r0 r1 HP1 HB1
   by_cases hlt:k<p.2.length
   ·obtain ⟨b,o,rfl,hbh,hs,x0,x1⟩:=H0.out.2.2.2 k hlt
    have d0:=(HB.out.cell (p:=⟨b,o+k*2,none⟩) hbh).trans x0
    have d1:=(HB.out.cell (p:=⟨b,o+k*2+1,none⟩) hbh).trans x1
    obtain ⟨m,hm,hmn⟩:=root_nat HV.out hlt
    have HTS:=hdQ (progTo_succ hlt)
    have HL1:=hdQ (progTo_len HV.out k qo)
    have HL2:=hdQ (assT_len HV.out hlt)
    have HCT:=qh (∀ wx,Below w.heap.size w wx->CB_ Tryz.prog 96 #[Zbs A p.1.length c (some ⟨b,o,none⟩) p.2.length c2,.int .i64 m] wx (str (textP p m))) (λwx hb=>HTX.out m hmn wx hb)
    obtain ⟨⟨nm,rt⟩,hx⟩:∃ x,p.2[k]=x:=⟨_,rfl⟩
    rw [hx] at d0 d1 hm hs HTS HL2
    (try dsimp only at d0 d1 hm hs)
    subst hm
    have HAS:=qh (assT p (nm,(m:Int))=nm++[32,61,32]++textP p m++[59,10]) rfl
    have i0:(k:Int)<p.2.length:=qo
    have i00:(0:Int)<=k:=qo
    generalize textP p m=Y at *
    generalize progTo p k=X at *
    have hL:X.length<=60000:=by have:=HL1.out;omega
    have hL2:nm.length+3+Y.length+2<=853:=by have:=HL2.out;rw [HAS.out] at this;simp only [List.length_append,List.length_cons,List.length_nil] at this;omega
    have s1:¬ 9223372036854775807<nm.length+3:=qo
    have s2:¬ 9223372036854775807<nm.length+3+Y.length:=qo
    have s3:¬ 9223372036854775807<nm.length+3+Y.length+2:=qo
    have HLL:=qh (X.length<=60000/\nm.length+3+Y.length+2<=853) ⟨hL,hL2⟩
    have HWS:=qh (∀ wx,Below wo.heap.size wo wx->Calls Tryz.prog 95 #[.pointer (some ⟨w1.heap.size,0,none⟩),.string ((({ data:=nm.toArray }++{ data := #[32,61,32] })++{ data:=Y.toArray })++{ data := #[59,10] })] wx λe w'=>∃ A4 c4,e=.returned (.tuple #[.int .i64 (nm++[32,61,32]++Y++[59,10]).length,.nilIface])/\Bld w' w1.heap.size w1.heap.size (.pointer (some ⟨w1.heap.size,0,none⟩)) A4 c4 (Lib.byteCells (X++assT p (nm,(m:Int))))/\Only wx.heap.size (w1.heap.size::gOf A3) wx w') (λwx hbx=>by
     have:=I_WriteString (nm++[32,61,32]++Y++[59,10]) (Bld.step hbx HBL.out) hq (by rw [Lib.byteCells_length];have:=HLL.out;simp only [List.length_append,List.length_cons,List.length_nil];omega) (by have:=hbx.size;omega)
     rw [HAS.out,byteCells_app]
     have e1:((({ data:=nm.toArray }++{ data := #[32,61,32] }:ByteArray)++{ data:=Y.toArray })++{ data := #[59,10] })=⟨(nm++[32,61,32]++Y++[59,10]).toArray⟩:=by
      show (((({ data:=nm.toArray }:ByteArray)++{ data:=[32,61,32].toArray })++{ data:=Y.toArray })++{ data:=[59,10].toArray })=_
      rw [Zab,Zab,Zab]
     rw [e1]
     exact this)
    have ng1:∀ x,x∈gOf A3->¬ x=wo.heap.size:=λx hx e=>by have:=hgl x hx;omega
    have ng2:∀ x,x∈gOf A3->¬ x=w.heap.size:=λx hx e=>by have:=hgg x hx;omega
    clear x0 x1 hs hx hL hL2
    go_wp2_with fail
    go_region_held3 (λw'=>w'.cell? ⟨wo.heap.size,0,none⟩=some (str nm)/\w'.cell? ⟨wo.heap.size,1,none⟩=some (.int .i64 m)/\w'.cell? ⟨w.heap.size,0,none⟩=some (.slice A p.1.length c)/\w'.cell? ⟨w.heap.size,1,none⟩=some (.slice (some ⟨b,o,none⟩) p.2.length c2))
     (first|go_keep|((try dsimp only);refine ⟨?_, ?_, ?_, ?_⟩<;>(go_simp;done)))
     (first|(go_at_call 96;(with_reducible refine (HCT.out _ bll).mono ?_);rintro e wA ⟨rfl,hbA⟩;have hzA:=hbA.size;(try simp at hzA);(refine Zai hbA (wo.heap.size) ?_ ?_;(first|omega|(simp<;>omega));intro n0 nf0 nz0);(refine Zai hbA (w.heap.size) ?_ ?_;(first|omega|(simp<;>omega));intro m0 mf0 mz0))|(go_at_call 95;(with_reducible refine (HWS.out _ bll).mono ?_);rintro e wB ⟨A4,c4,rfl,hbB,hoB⟩;have y0:=(hoB.cell wo.heap.size omm (by simp only [List.mem_cons,not_or];exact ⟨qo,λh=>ng1 _ h rfl⟩)).1;have y1:=(hoB.cell w.heap.size omm (by simp only [List.mem_cons,not_or];exact ⟨qo,λh=>ng2 _ h rfl⟩)).1)|fail)
    all_goals
     have HBB:=hdQ hbB
     have HOB:=hdQ hoB
     clear hbB hoB
     go_wp2_with fail
     go_roundw
     case rel =>
      refine ⟨k+1,_,A4,c4,qo,qg,.inr rfl, ?_, ?_, ?_⟩
      ·rw [HTS.out];exact HBB.out
      ·exact HOB.out.own (g:=w.heap.size) (owx HP.out) omm (by simp only [List.mem_cons,not_or];exact ⟨qo,λh=>ng2 _ h rfl⟩)
      ·exact Below.trans bll (HOB.out.below omm (by intro x hx;rcases List.mem_cons.1 hx with rfl|hx;omega;have:=hgg x hx;omega))
     case measure=>exact qn
   ·obtain rfl:k=p.2.length:=by omega
    have HSB:=qh (∀ wx,wx=wo->Calls Tryz.prog 97 #[.pointer (some ⟨w1.heap.size,0,none⟩)] wx λe w'=>e=.returned (str (Zem p))/\Below w1.heap.size wx w') (λwx hx=>by
     subst hx
     exact Tryz.Builder_String_any w1.heap.size w1.heap.size (Zem p) wx (HBL.out.is hq) qo)
    go_wp2_with (first|(go_at_call 97;(with_reducible refine (HSB.out _ rfl).mono ?_);rintro e wA ⟨rfl,hbA⟩)|fail)
    go_ret
    exact ⟨rfl,Below.trans HB.out (hbA.mono qo)⟩
def OwnB (w:World) (g:Nat) (t:TypeId) (cs:List Value):Prop:=∃ m,cs.length<=m/\w.heap[g]? = some (.cells ⟨cs⟩ t (m,m+1))
theorem OwnB.lt {w:World} {g:Nat} {t:TypeId} {cs:List Value} (h:OwnB w g t cs):g<w.heap.size:=by
 obtain ⟨m,_,h⟩:=h
 exact (Array.getElem?_eq_some_iff.1 h).1
theorem OwnB.cell {w:World} {g:Nat} {t:TypeId} {cs:List Value} (h:OwnB w g t cs) (i:Nat):w.cell? ⟨g,i,none⟩=cs[i]? := by
 obtain ⟨m,_,h⟩:=h
 simp [World.cell?,h]
theorem OwnB.frozen {w:World} {g:Nat} {t:TypeId} {cs:List Value} (h:OwnB w g t cs) {i:Nat} (hi:i<cs.length):w.frozen? ⟨g,i,none⟩=false:=by
 obtain ⟨m,hm,h⟩:=h
 simp [World.frozen?,h];omega
theorem OwnB.set_ {w:World} {g:Nat} {t:TypeId} {cs:List Value} (h:OwnB w g t cs) (i:Nat) (u:Value):OwnB (w.setCell ⟨g,i,none⟩ u) g t (cs.set i u):=by
 obtain ⟨m,hm,h⟩:=h
 refine ⟨m,by simpa using hm, ?_⟩
 simp [World.setCell,Array.getElem?_modify,h]
theorem OwnB.step {w w':World} {g:Nat} {t:TypeId} {cs:List Value} (hb:Below w.heap.size w w') (h:OwnB w g t cs):OwnB w' g t cs:=by
 have hl:=h.lt
 obtain ⟨m,hm,h⟩:=h
 exact ⟨m,hm,(hb.block g hl).trans h⟩
abbrev u8s (l:List UInt8):List Value:=l.map λb=>.int .u8 (b.toNat:Int)
theorem bytes_of {P:Program} (src dst e:TypeId) (l:List UInt8) (hs:P.underlying src=some .string) (hd:P.underlying dst=some (.slice e)) (he:P.underlying e=some (.int .u8)) (w:World) :
  ∃ (cap:Nat) (w1:World) (pad:List Value),(convert src dst (.string ⟨l.toArray⟩)).run P w=.ok (.slice (some ⟨w.heap.size,0,none⟩) l.length cap) w1/\OwnB w1 w.heap.size e (u8s l++pad)/\Below w.heap.size w w1/\w1.heap.size=w.heap.size+1/\l.length<=cap:=by
 refine ⟨_,_,List.replicate (grownCap w l.length 0 e-l.length) (.int .u8 0),run_bytes_of_string w src dst e ⟨l.toArray⟩ hs hd he,⟨(bytesRow ⟨l.toArray⟩ (grownCap w l.length 0 e)).size, ?_, ?_⟩, ?_, ?_, ?_⟩
 ·unfold bytesRow;simp [ByteArray.size]
 ·have:(w.drew.alloc (.cells (bytesRow ⟨l.toArray⟩ (grownCap w l.length 0 e)) e ((bytesRow ⟨l.toArray⟩ (grownCap w l.length 0 e)).size,(bytesRow ⟨l.toArray⟩ (grownCap w l.length 0 e)).size+1))).heap[w.heap.size]? = some (.cells (bytesRow ⟨l.toArray⟩ (grownCap w l.length 0 e)) e ((bytesRow ⟨l.toArray⟩ (grownCap w l.length 0 e)).size,(bytesRow ⟨l.toArray⟩ (grownCap w l.length 0 e)).size+1)):=heap_alloc_new w.drew _
  refine this.trans ?_
  have e1:bytesRow ⟨l.toArray⟩ (grownCap w l.length 0 e)=⟨u8s l++List.replicate (grownCap w l.length 0 e-l.length) (.int .u8 0)⟩:=by
   apply Array.ext'
   unfold bytesRow
   simp [ByteArray.size,u8s]
  rw [e1]
 ·exact ((Below.refl _ _).drew).alloc (Nat.le_refl _) _
 ·simp
 ·show l.length<=grownCap w l.length 0 e
  unfold grownCap Question.cut
  simp
theorem index_one_eq (c:UInt8) (t:List UInt8):index (c::t) [c]=((0:Nat):Int):=by rw [index];simp [List.isPrefixOf]
theorem index_one_ne {b c:UInt8} (t:List UInt8) (h:b≠c):index (b::t) [c]=if index t [c] == -1 then -1 else index t [c]+1:=by
 have hp:([c]:List UInt8).isPrefixOf (b::t)=false:=by simp [List.isPrefixOf,Ne.symm h]
 rw [index,hp];simp
theorem replaceK_one (c d:UInt8):∀ s:List UInt8,replaceK [c] [d] (s.count c) s=s.map λb=>if b=c then d else b
 | []=>by simp [replaceK]
 | b::t=>by
  by_cases hb:b=c
  ·subst hb
   rw [List.count_cons_self,replaceK_hit _ _ _ _ 0 (index_one_eq b t)]
   simp only [List.take_zero,List.nil_append,List.length_cons,List.length_nil,List.drop_succ_cons,List.drop_zero,List.map_cons,if_true,List.cons_append]
   rw [replaceK_one b d t]
  ·have ih:=replaceK_one c d t
   rw [List.count_cons_of_ne (by simpa using hb)]
   simp only [List.map_cons,if_neg hb]
   rw [<- ih]
   rcases Nat.eq_zero_or_pos (t.count c) with h0|h0
   ·rw [h0];simp [replaceK]
   ·obtain ⟨k,hk⟩:∃ k,t.count c=k+1:=⟨t.count c-1,qo⟩
    obtain ⟨i,hi⟩:=index_of_count (s:=t) (old:=[c]) (by rw [count_one];omega)
    rw [hk,replaceK_hit _ _ _ _ i hi,replaceK_hit _ _ _ _ (i+1) (by
     rw [index_one_ne t hb,hi,if_neg (by simp<;>omega)];first|rfl|omega)]
    simp
theorem replaceAll_one (c d:UInt8) (hcd:c≠d) (s:List UInt8):replaceAll s [c] [d]=s.map λb=>if b=c then d else b:=by
 unfold replaceAll replace
 rw [if_neg (by simpa using hcd)]
 have:replaceNum s [c] (-1)=s.count c:=by unfold replaceNum;rw [if_pos qo,count_one]
 rw [this,replaceK_one]
theorem replaceAll_flat (s:List UInt8):replaceAll s [10] [32]=flatT s:=replaceAll_one 10 32 qd s
def fl1 (b:UInt8):UInt8:=if b=10 then 32 else b
theorem flatT_at {l:List UInt8} {j:Nat} (h:j<l.length):(flatT l)[j]'(by rw [Zes];exact h)=fl1 l[j]:=by simp [flatT,fl1]
set_option maxHeartbeats 8000000 in
theorem S_l20Flat (l:List UInt8) (w:World) (hl:l.length<=1048576) :
  Calls Tryz.prog 65 #[str l] w λe w'=>e=.returned (str (flatT l))/\Below w.heap.size w w':=by
 obtain ⟨cap,w1,pad,hcv,ho,hb1,hz1,hcap⟩:=bytes_of (P:=Tryz.prog) 9 36 5 l Tryz.underlying9 Tryz.underlying36 Tryz.underlying5 w
 have HO:=hdQ ho
 have HB1:=hdQ hb1
 clear ho hb1
 go_enter Tryz.func65,Tryz.ntmps65
 go_wp2_with fail
 clear hcv
 go_loopw [4,5,10] (λ_ _ i wr=>∃ (k:Nat) (cs:List Value),k<=l.length/\i=.int .i64 k/\OwnB wr w.heap.size 5 cs/\l.length<=cs.length/\(∀ j (h:j<l.length),cs[j]? = some (.int .u8 ((if j<k then fl1 l[j] else l[j]).toNat:Int)))/\Below w.heap.size w wr) (λ_ _ i _=>l.length-(RowKit.intOf i).toNat)
 case atStart=>exact ⟨0,_,Nat.zero_le _,rfl,HO.out,qs,λj h=>by rw [List.getElem?_append_left (by simpa using h)];simp [h],HB1.out⟩
 case round =>
  obtain ⟨k,cs,hk,rfl,ho,hcl,hcs,hb⟩:=hrel
  obtain ⟨wo,rfl⟩:=qe wr
  have HB:=hdQ hb
  have HC:=hdQ ho
  have HCS:=hdQ hcs
  clear hb ho hcs HO HB1
  by_cases hlt:k<l.length
  ·have c1:wo.cell? ⟨w.heap.size,k,none⟩=some (.int .u8 (l[k].toNat:Int)):=by rw [HC.out.cell,HCS.out k hlt,if_neg qo]
   have f1:wo.frozen? ⟨w.heap.size,k,none⟩=false:=HC.out.frozen qo
   have i1:(k:Int)<l.length:=qo
   have i2:(0:Int)<=k:=qo
   by_cases hx:l[k]=10
   ·have HK:=qh (∀ j (h:j<l.length),(cs.set k (.int .u8 32))[j]? = some (.int .u8 ((if j<k+1 then fl1 l[j] else l[j]).toNat:Int))) (λj h=>by
     by_cases e:k=j
     ·subst e
      rw [List.getElem?_set_self qo,if_pos qo]
      unfold fl1;rw [if_pos hx];rfl
     ·rw [List.getElem?_set_ne e,HCS.out j h]
      by_cases e2:j<k
      ·rw [if_pos e2,if_pos qo]
      ·rw [if_neg e2,if_neg qo])
    rw [hx] at c1
    have c2:wo.cell? ⟨w.heap.size,k,none⟩=some (.int .u8 10):=c1
    clear c1 hx
    go_wp2_with fail
    go_roundw
    case rel=>exact ⟨k+1,_,qo,qg,HC.out.set_ _ _,by simpa using hcl,HK.out,HB.out.setCell (Nat.le_refl _) _⟩
    case measure=>exact qn
   ·have HK:=qh (∀ j (h:j<l.length),cs[j]? = some (.int .u8 ((if j<k+1 then fl1 l[j] else l[j]).toNat:Int))) (λj h=>by
     rw [HCS.out j h]
     by_cases e2:j<k
     ·rw [if_pos e2,if_pos qo]
     ·rw [if_neg e2]
      by_cases e:k=j
      ·subst e;rw [if_pos qo];unfold fl1;rw [if_neg hx]
      ·rw [if_neg qo])
    have hx2:(((l[k].toNat:Int))==10)=false:=by
     simp only [beq_eq_false_iff_ne]
     intro e
     exact hx (UInt8.toNat_inj.1 (by show l[k].toNat=10;omega))
    generalize l[k].toNat=xn at *
    clear hx
    go_wp2_with fail
    go_roundw
    case rel=>exact ⟨k+1,_,qo,qg,HC.out,hcl,HK.out,HB.out⟩
    case measure=>exact qn
  ·obtain rfl:k=l.length:=by omega
   have hcb:(convert 36 9 (.slice (some ⟨w.heap.size,0,none⟩) l.length cap)).run Tryz.prog wo=.ok (str (flatT l)) wo:=by
    have:=run_convert_bytes_back (P:=Tryz.prog) wo 36 9 5 ⟨w.heap.size,0,none⟩ cap (flatT l) Tryz.underlying36 Tryz.underlying5 Tryz.underlying9 (λj hj=>by
     have hj':j<l.length:=by rw [Zes] at hj;exact hj
     show wo.cell? ((⟨w.heap.size,0,none⟩:Addr).add j)=_
     rw [show ((⟨w.heap.size,0,none⟩:Addr).add j)=⟨w.heap.size,j,none⟩ by unfold Addr.add;split<;>simp_all]
     rw [HC.out.cell,HCS.out j hj',if_pos hj',flatT_at hj'])
    rw [Zes] at this
    exact this
   go_wp2_with fail
   go_ret
   exact ⟨rfl,HB.out⟩
def MLen (w:World):Prop:=∃ m,w.cell? ⟨0,0,none⟩=some (.int .i64 m)
theorem MLen.step {w w':World} (h:MLen w) (hb:Below w.heap.size w w'):MLen w':=by
 obtain ⟨m,h4⟩:=h
 have hlt:0<w.heap.size:=by
  rcases Nat.lt_or_ge 0 w.heap.size with h'|h'
  ·exact h'
  ·simp [World.cell?,Array.getElem?_eq_none h'] at h4
 exact ⟨m,(hb.cell (p:=⟨0,0,none⟩) hlt).trans h4⟩
theorem I_ReplaceAll (l:List UInt8) (w:World) (hl:l.length<=1048576) (hm:MLen w) :
  Calls Tryz.prog 43 #[str l,.string ⟨#[10]⟩,.string ⟨#[32]⟩] w λe w'=>e=.returned (str (flatT l))/\Below w.heap.size w w':=by
 obtain ⟨m,hm⟩:=hm
 refine (Tryz.strings_ReplaceAll ⟨l.toArray⟩ ⟨#[10]⟩ ⟨#[32]⟩ m w (by show l.length<_;omega) hm qd ?_).mono ?_
 ·have:=countB_le ⟨#[10]⟩ qd l.length ⟨l.toArray⟩ (Nat.le_refl _)
  have e1:(⟨l.toArray⟩:ByteArray).size=l.length:=rfl
  have e2:(⟨#[32]⟩:ByteArray).size=1:=rfl
  rw [e1,e2]
  rw [e1] at this
  omega
 ·rintro e w' ⟨rfl,hb⟩
  exact ⟨by show Ending.returned (Value.string ⟨(replaceAll l [10] [32]).toArray⟩)=_;rw [replaceAll_flat],hb⟩
def Zan (s:EScene) (k j:Nat):List (List UInt8):=headL s++(s.ps.take k).map shadT++(s.ss.take j).map surfT
theorem Zdv (s:EScene):Zan s s.ps.length s.ss.length=Zaw s:=by unfold Zan Zaw;rw [List.take_length,List.take_length]
theorem Zf4 {s:EScene} {k j:Nat} (hk:k<=s.ps.length) (hj:j<=s.ss.length):(Zan s k j).length=3+k+j:=by
 simp only [Zan,headL,List.length_append,List.length_map,List.length_take,List.length_cons,List.length_nil];omega
theorem linesAt_shad {s:EScene} {k:Nat} (h:k<s.ps.length):Zan s (k+1) 0=Zan s k 0++[shadT s.ps[k]]:=by
 unfold Zan;rw [List.take_succ_eq_append_getElem h,List.map_append];simp only [List.map_cons,List.map_nil,List.take_zero,List.append_nil,List.append_assoc]
theorem linesAt_surf {s:EScene} {k j:Nat} (h:j<s.ss.length):Zan s k (j+1)=Zan s k j++[surfT s.ss[j]]:=by
 unfold Zan;rw [List.take_succ_eq_append_getElem h,List.map_append];simp only [List.map_cons,List.map_nil,List.append_assoc]
theorem one_str (b:ByteArray):∀ u∈[Value.string b],u.oneCell'=true:=by
 intro u hu
 obtain rfl:u=Value.string b:=by simpa using hu
 rfl
theorem scene_progT {s:EScene} (h:SceneIs s) {k:Nat} (hk:k<s.ps.length):progF s.ps[k]=Zem s.ps[k]:=by
 unfold progF;rw [if_pos (Zco (Zfk h.shad hk))]
set_option maxHeartbeats 32000000 in
theorem S_FormatScene {s:EScene} {TA P Q:Option Addr} {tc pc qc:Nat} (w:World) (h:SceneIn w s TA tc P pc Q qc) :
  Calls Tryz.prog 24 #[vScene s TA tc P pc Q qc] w λe w'=>e=.returned (str (Zbj s))/\Below w.heap.size w w':=by
 have H0:=hdQ h
 have HVS:=qh (∀ b,Za0 s=b->∀ wx,Below w.heap.size w wx->CB_ Tryz.prog 64 #[vScene s TA tc P pc Q qc] wx (.bool b)) (λb hb wx hbx=>by subst hb;exact S_IsValidScene wx (h.step hbx))
 cases hok:Za0 s with
 | false =>
  have HF:=qh (Zbj s=[]) (by unfold Zbj;rw [hok];rfl)
  clear h
  go_enter Tryz.func24,Tryz.ntmps24
  go_wp2_with (first|(go_at_call 64;(with_reducible refine (HVS.out false hok _ bll).mono ?_);rintro e w1 ⟨rfl,hb1⟩;have HB1:=bh w hb1;clear hb1)|fail)
  go_ret
  exact ⟨by rw [HF.out];rfl,HB1.out⟩
 | true =>
 have HIS:=hdQ (sceneIs hok)
 have HF:=qh (Zbj s=join (Zaw s) [10]++[10]) (by unfold Zbj;rw [hok];rfl)
 have hnp:=HIS.out.np
 have hns:=HIS.out.ns
 have HCM:=qh (∀ wx,Below w.heap.size w wx->CB_ Tryz.prog 56 #[Zbl s.a s.b s.c s.d s.e s.f s.g] wx (str (camT s.a s.b s.c s.d s.e s.f s.g))) (λwx hbx=>S_FormatCamera _ _ _ _ _ _ _ wx HIS.out.cam)
 have HTX:=qh (∀ wx,Below w.heap.size w wx->CB_ Tryz.prog 57 #[Zcc s.log (.slice TA s.tex.length tc)] wx (str (texT s.log s.tex))) (λwx hbx=>by have:=S_FormatTexture (log:=s.log) wx (RS.step hbx h.tex);rw [if_pos HIS.out.tex] at this;exact this)
 have HNI:=qh (∀ (n:Int) wx,Below w.heap.size w wx->CB_ Tryz.prog 58 #[.int .i64 n] wx (str (fmtI n))) (λn wx hbx=>Zcj n wx)
 have HPT:=qh (∀ p,Za8 p=true->∀ wx,Below w.heap.size w wx->CB_ Tryz.prog 67 #[Zcd p] wx (str (Zeb p))) (λp hp wx hbx=>S_FormatPatch p wx hp)
 have HPR:Hid (∀ {A A2:Option Addr} {c c2:Nat} {p:Zae} wx,Below w.heap.size w wx->Zdl w A c A2 c2 p->p.1.length<=1048576->p.2.length<=1048576->CB_ Tryz.prog 66 #[Zbs A p.1.length c A2 p.2.length c2] wx (str (progF p))):=hdQ (λwx hbx hp h1 h2=>S_FormatProgram wx (hp.step hbx) h1 h2)
 have HFL:=qh (∀ (l:List UInt8) wx,Below w.heap.size w wx->l.length<=1048576->CB_ Tryz.prog 65 #[str l] wx (str (flatT l))) (λl wx hbx hl=>S_l20Flat l wx hl)
 have HX1:=hdQ (camT_len s.a s.b s.c s.d s.e s.f s.g)
 have HX2:=hdQ (texT_len (log:=s.log) (Zd8 HIS.out.tex).2.2.1)
 have HX3:=hdQ (Zb0 s.side)
 have HNS:=hdQ (HNI.out s.side)
 obtain ⟨X1,hX1⟩:∃ X,camT s.a s.b s.c s.d s.e s.f s.g=X:=⟨_,rfl⟩
 obtain ⟨X2,hX2⟩:∃ X,texT s.log s.tex=X:=⟨_,rfl⟩
 obtain ⟨X3,hX3⟩:∃ X,fmtI s.side=X:=⟨_,rfl⟩
 have HHL:=qh (Zam (Zan s 0 0)=[.string ({ data := #[99,97,109,101,114,97,32] }++{ data:=X1.toArray }),.string ({ data := #[116,101,120,116,117,114,101,32] }++{ data:=X2.toArray }),.string ({ data := #[115,105,100,101,32] }++{ data:=X3.toArray })]) (by
  subst hX1;subst hX2;subst hX3
  show Zam (headL s++[]++[])=_
  rw [List.append_nil,List.append_nil]
  show [str _,str _,str _]=[Value.string (({ data:=[99,97,109,101,114,97,32].toArray }:ByteArray)++_),Value.string (({ data:=[116,101,120,116,117,114,101,32].toArray }:ByteArray)++_),Value.string (({ data:=[115,105,100,101,32].toArray }:ByteArray)++_)]
  rw [Zab,Zab,Zab])
 rw [hX1] at HCM HX1
 rw [hX2] at HTX HX2
 rw [hX3] at HNS HX3
 have s1:¬ 9223372036854775807<7+X1.length:=by have:=HX1.out;omega
 have s2:¬ 9223372036854775807<8+X2.length:=by have:=HX2.out;omega
 have s3:¬ 9223372036854775807<5+X3.length:=by have:=HX3.out;omega
 have HPZ:=qh (Own (w.alloc (.cells #[.int .i64 s.a,.int .i64 s.b,.int .i64 s.c,.int .i64 s.d,.bool s.e,.int .i64 s.f,.int .i64 s.g,.int .i64 s.log,.slice TA s.tex.length tc,.slice P s.ps.length pc,.slice Q s.ss.length qc,.int .i64 s.side] 30)) w.heap.size 30 [.int .i64 s.a,.int .i64 s.b,.int .i64 s.c,.int .i64 s.d,.bool s.e,.int .i64 s.f,.int .i64 s.g,.int .i64 s.log,.slice TA s.tex.length tc,.slice P s.ps.length pc,.slice Q s.ss.length qc,.int .i64 s.side]) (Own.new w _ #[_,_,_,_,_,_,_,_,_,_,_,_])
 clear h hX1 hX2 hX3
 go_enter Tryz.func24,Tryz.ntmps24
 go_upto_region 3 with (first|(go_at_call 64;(with_reducible refine (HVS.out true hok _ bll).mono ?_);rintro e w1 ⟨rfl,hb1⟩;have hz1:=hb1.size;(try simp at hz1);have HB1:=bh w hb1;have HP1:=qh (Own w1 w.heap.size 30 [.int .i64 s.a,.int .i64 s.b,.int .i64 s.c,.int .i64 s.d,.bool s.e,.int .i64 s.f,.int .i64 s.g,.int .i64 s.log,.slice TA s.tex.length tc,.slice P s.ps.length pc,.slice Q s.ss.length qc,.int .i64 s.side]) (Own.step hb1 HPZ.out);clear hb1)|fail)
 have t0:w1.cell? ⟨w.heap.size,0,none⟩=some (.int .i64 s.a):=HP1.out.cell 0
 have t1:w1.cell? ⟨w.heap.size,1,none⟩=some (.int .i64 s.b):=HP1.out.cell 1
 have t2:w1.cell? ⟨w.heap.size,2,none⟩=some (.int .i64 s.c):=HP1.out.cell 2
 have t3:w1.cell? ⟨w.heap.size,3,none⟩=some (.int .i64 s.d):=HP1.out.cell 3
 have t4:w1.cell? ⟨w.heap.size,4,none⟩=some (.bool s.e):=HP1.out.cell 4
 have t5:w1.cell? ⟨w.heap.size,5,none⟩=some (.int .i64 s.f):=HP1.out.cell 5
 have t6:w1.cell? ⟨w.heap.size,6,none⟩=some (.int .i64 s.g):=HP1.out.cell 6
 have t7:w1.cell? ⟨w.heap.size,7,none⟩=some (.int .i64 s.log):=HP1.out.cell 7
 have t8:w1.cell? ⟨w.heap.size,8,none⟩=some (.slice TA s.tex.length tc):=HP1.out.cell 8
 have t9:w1.cell? ⟨w.heap.size,9,none⟩=some (.slice P s.ps.length pc):=HP1.out.cell 9
 have t10:w1.cell? ⟨w.heap.size,10,none⟩=some (.slice Q s.ss.length qc):=HP1.out.cell 10
 have t11:w1.cell? ⟨w.heap.size,11,none⟩=some (.int .i64 s.side):=HP1.out.cell 11
 clear HVS HPZ
 go_cut [3] (λs3 wx=>∃ B,s3=.slice (some ⟨B,0,none⟩) 3 3/\Zah wx (w.heap.size+1) 9 1 (some ⟨B,0,none⟩) 3 3 (Zam (Zan s 0 0))/\Own wx w.heap.size 30 [.int .i64 s.a,.int .i64 s.b,.int .i64 s.c,.int .i64 s.d,.bool s.e,.int .i64 s.f,.int .i64 s.g,.int .i64 s.log,.slice TA s.tex.length tc,.slice P s.ps.length pc,.slice Q s.ss.length qc,.int .i64 s.side]/\Below w.heap.size w wx)
 case first =>
  go_region_held3 (λw'=>w'.cell? ⟨w.heap.size,0,none⟩=some (.int .i64 s.a)/\w'.cell? ⟨w.heap.size,1,none⟩=some (.int .i64 s.b)/\w'.cell? ⟨w.heap.size,2,none⟩=some (.int .i64 s.c)/\w'.cell? ⟨w.heap.size,3,none⟩=some (.int .i64 s.d)/\w'.cell? ⟨w.heap.size,4,none⟩=some (.bool s.e)/\w'.cell? ⟨w.heap.size,5,none⟩=some (.int .i64 s.f)/\w'.cell? ⟨w.heap.size,6,none⟩=some (.int .i64 s.g)/\w'.cell? ⟨w.heap.size,7,none⟩=some (.int .i64 s.log)/\w'.cell? ⟨w.heap.size,8,none⟩=some (.slice TA s.tex.length tc)/\w'.cell? ⟨w.heap.size,11,none⟩=some (.int .i64 s.side))
   (first|go_keep|((try dsimp only);refine ⟨?_, ?_, ?_, ?_, ?_, ?_, ?_, ?_, ?_, ?_⟩<;>(go_simp;done)))
   (first|(go_at_call 56;(with_reducible refine (HCM.out _ bll).mono ?_);rintro e wA ⟨rfl,hbA⟩;have hzA:=hbA.size;(try simp at hzA);(refine Zai hbA (w.heap.size) ?_ ?_;(first|omega|(simp<;>omega));intro n0 nf0 nz0))|(go_at_call 57;(with_reducible refine (HTX.out _ bll).mono ?_);rintro e wB ⟨rfl,hbB⟩;have hzB:=hbB.size;(try simp at hzB);(refine Zai hbB (w.heap.size) ?_ ?_;(first|omega|(simp<;>omega));intro m0 mf0 mz0))|(go_at_call 58;(with_reducible refine (HNS.out _ bll).mono ?_);rintro e wC ⟨rfl,hbC⟩;have hzC:=hbC.size;(try simp at hzC);(refine Zai hbC (w.heap.size) ?_ ?_;(first|omega|(simp<;>omega));intro q0 qf0 qz0))|fail)
  all_goals
   go_wp2_with fail
   go_meet
   refine ⟨_,rfl, ?_,(owx HP1.out),bll⟩
   rw [HHL.out]
   repeat (first|(with_reducible refine Zah.drewN ?_ _)|(with_reducible refine Zah.drew ?_)|(refine Zah.lit_at (cs := #[_,_,_]) (by first|rfl|simp) qr ?_ qd))
   all_goals (first|omega|(simp<;>omega))
 case rest =>
 obtain ⟨B0,rfl,hg0,hp0,hb0⟩:=hcut
 have HG0:=hdQ hg0
 have HP0:=hdQ hp0
 have HB0:=hdQ hb0
 have u0:wc.cell? ⟨w.heap.size,0,none⟩=some (.int .i64 s.a):=hp0.cell 0
 have u1:wc.cell? ⟨w.heap.size,1,none⟩=some (.int .i64 s.b):=hp0.cell 1
 have u2:wc.cell? ⟨w.heap.size,2,none⟩=some (.int .i64 s.c):=hp0.cell 2
 have u3:wc.cell? ⟨w.heap.size,3,none⟩=some (.int .i64 s.d):=hp0.cell 3
 have u4:wc.cell? ⟨w.heap.size,4,none⟩=some (.bool s.e):=hp0.cell 4
 have u5:wc.cell? ⟨w.heap.size,5,none⟩=some (.int .i64 s.f):=hp0.cell 5
 have u6:wc.cell? ⟨w.heap.size,6,none⟩=some (.int .i64 s.g):=hp0.cell 6
 have u7:wc.cell? ⟨w.heap.size,7,none⟩=some (.int .i64 s.log):=hp0.cell 7
 have u8:wc.cell? ⟨w.heap.size,8,none⟩=some (.slice TA s.tex.length tc):=hp0.cell 8
 have u9:wc.cell? ⟨w.heap.size,9,none⟩=some (.slice P s.ps.length pc):=hp0.cell 9
 have u10:wc.cell? ⟨w.heap.size,10,none⟩=some (.slice Q s.ss.length qc):=hp0.cell 10
 have u11:wc.cell? ⟨w.heap.size,11,none⟩=some (.int .i64 s.side):=hp0.cell 11
 clear hg0 hp0 hb0 HP1 HB1 HHL
 go_wp2_with fail
 go_loopw [3,5,27] (λls _ i wr=>∃ (k:Nat) (B:Option Addr) (d:Nat),k<=s.ps.length/\i=.int .i64 k/\ls=.slice B (3+k) d/\Zah wr (w.heap.size+1) 9 1 B (3+k) d (Zam (Zan s k 0))/\Own wr w.heap.size 30 [.int .i64 s.a,.int .i64 s.b,.int .i64 s.c,.int .i64 s.d,.bool s.e,.int .i64 s.f,.int .i64 s.g,.int .i64 s.log,.slice TA s.tex.length tc,.slice P s.ps.length pc,.slice Q s.ss.length qc,.int .i64 s.side]/\Below w.heap.size w wr) (λ_ _ i _=>s.ps.length-(RowKit.intOf i).toNat)
 case atStart=>exact ⟨0,_,_,Nat.zero_le _,rfl,rfl,HG0.out,HP0.out,HB0.out⟩
 case round =>
  obtain ⟨k,B,d,hk,rfl,rfl,hg,hp,hb⟩:=hrel
  obtain ⟨wo,rfl⟩:=qe wr
  have hz:=hb.size
  have hl:=hp.lt
  have hgl:=hg.lt
  have hgg:=hg.ge
  have HG:=hdQ hg
  have HP:=hdQ hp
  have HB:=hdQ hb
  have y9:wo.cell? ⟨w.heap.size,9,none⟩=some (.slice P s.ps.length pc):=hp.cell 9
  have y10:wo.cell? ⟨w.heap.size,10,none⟩=some (.slice Q s.ss.length qc):=hp.cell 10
  clear hg hp hb HG0 HP0 HB0
  by_cases hlt:k<s.ps.length
  ·obtain ⟨b,o,A1,c1,A2,c2,rfl,hbh,hpi,hn1,hn2,x0,x1⟩:=H0.out.ps.2.2 k hlt
   have z0:=(HB.out.cell (p:=⟨b,o+k*2,none⟩) hbh).trans x0
   have z1:=(HB.out.cell (p:=⟨b,o+k*2+1,none⟩) hbh).trans x1
   have HLS:=hdQ (linesAt_shad hlt)
   have HPE:=hdQ (scene_progT HIS.out hlt)
   have HPL:=hdQ (progT_len (Zco (Zfk HIS.out.shad hlt)))
   obtain ⟨x,hx⟩:=qv (s.ps[k])
   rw [hx] at z0 z1 HLS HPE HPL hpi hn1 hn2
   have HC:=qh (∀ wx,Below w.heap.size w wx->CB_ Tryz.prog 66 #[Zbs A1 x.1.length c1 A2 x.2.length c2] wx (str (Zem x))) (λwx hbx=>by rw [<- HPE.out];exact HPR.out wx hbx hpi hn1 hn2)
   have HC2:=qh (∀ wx,Below w.heap.size w wx->CB_ Tryz.prog 65 #[str (Zem x)] wx (str (flatT (Zem x)))) (λwx hbx=>HFL.out _ wx hbx (by have:=HPL.out;omega))
   have HFT:=qh ((flatT (Zem x)).length<=51180) (by rw [Zes];exact HPL.out)
   have HS:=qh (Zam (Zan s (k+1) 0)=Zam (Zan s k 0)++[.string ({ data := #[115,104,97,100,101,114,32] }++{ data:=(flatT (Zem x)).toArray })]) (by
    rw [HLS.out,<- Za6]
    show _=Zam (Zan s k 0)++[Value.string (({ data:=[115,104,97,100,101,114,32].toArray }:ByteArray)++_)]
    rw [Zab];rfl)
   generalize flatT (Zem x)=Y at *
   have s4:¬ 9223372036854775807<7+Y.length:=by have:=HFT.out;omega
   have j1:(k:Int)<s.ps.length:=qo
   have j2:(0:Int)<=k:=qo
   have hwn:¬ wo.heap.size=w.heap.size:=qo
   clear hpi hx x0 x1
   go_wp2_with (first|(go_at_call 66;(with_reducible refine (HC.out _ bll).mono ?_);rintro e wA ⟨rfl,hbA⟩;have hzA:=hbA.size;(try simp at hzA);have HBA:=bh w hbA;have HPA:=qh (Own wA w.heap.size 30 [.int .i64 s.a,.int .i64 s.b,.int .i64 s.c,.int .i64 s.d,.bool s.e,.int .i64 s.f,.int .i64 s.g,.int .i64 s.log,.slice TA s.tex.length tc,.slice (some ⟨b,o,none⟩) s.ps.length pc,.slice Q s.ss.length qc,.int .i64 s.side]) (Own.step hbA (owx HP.out));have HGA:=qh (Zah wA (w.heap.size+1) 9 1 B (3+k) d (Zam (Zan s k 0))) (Zah.step hbA (gwx HG.out));clear hbA)|(go_at_call 65;(with_reducible refine (HC2.out _ HBA.out).mono ?_);rintro e wB ⟨rfl,hbB⟩;have hzB:=hbB.size;(try simp at hzB);have HBB:=qh (Below w.heap.size w wB) (Below.step hbB HBA.out HBA.out.size);have HPB:=qh (Own wB w.heap.size 30 [.int .i64 s.a,.int .i64 s.b,.int .i64 s.c,.int .i64 s.d,.bool s.e,.int .i64 s.f,.int .i64 s.g,.int .i64 s.log,.slice TA s.tex.length tc,.slice (some ⟨b,o,none⟩) s.ps.length pc,.slice Q s.ss.length qc,.int .i64 s.side]) (Own.step hbB HPA.out);have HGB:=qh (Zah wB (w.heap.size+1) 9 1 B (3+k) d (Zam (Zan s k 0))) (Zah.step hbB HGA.out);clear hbB)|(at_builtin;refine wpA (w.heap.size+1) Tryz.underlying50 T.infoString (Zam (Zan s k 0)) ([.string ({ data := #[115,104,97,100,101,114,32] }++{ data:=Y.toArray })]) (one_str _) ?_ ?_ ?_;exact (gwx HGB.out);exact (ltt 1);rintro A' c' w2 gA;have g1:=gA.1;have g2:=gA.2.1;rw [<- HS.out] at g1;have HG1:=hdQ g1;have HB2:=qh (Below w.heap.size w w2) (Below.trans (Below.alloc HBB.out qo _) (g2.mono qo));have HP2:=qh (Own w2 w.heap.size 30 [.int .i64 s.a,.int .i64 s.b,.int .i64 s.c,.int .i64 s.d,.bool s.e,.int .i64 s.f,.int .i64 s.g,.int .i64 s.log,.slice TA s.tex.length tc,.slice (some ⟨b,o,none⟩) s.ps.length pc,.slice Q s.ss.length qc,.int .i64 s.side]) (Own.below (Own.alloc HPB.out _) g2 qo);clear gA g1 g2)|fail)
   go_roundw
   case rel=>exact ⟨k+1,_,_,qo,qg,rfl,HG1.out,HP2.out,HB2.out⟩
   case measure=>exact qn
  ·obtain rfl:k=s.ps.length:=by omega
   go_wp2_with fail
   go_loopw [3,7,42] (λls _ i wr=>∃ (j:Nat) (B:Option Addr) (d:Nat),j<=s.ss.length/\i=.int .i64 j/\ls=.slice B (3+s.ps.length+j) d/\Zah wr (w.heap.size+1) 9 1 B (3+s.ps.length+j) d (Zam (Zan s s.ps.length j))/\Own wr w.heap.size 30 [.int .i64 s.a,.int .i64 s.b,.int .i64 s.c,.int .i64 s.d,.bool s.e,.int .i64 s.f,.int .i64 s.g,.int .i64 s.log,.slice TA s.tex.length tc,.slice P s.ps.length pc,.slice Q s.ss.length qc,.int .i64 s.side]/\Below w.heap.size w wr) (λ_ _ i _=>s.ss.length-(RowKit.intOf i).toNat)
   case atStart=>exact ⟨0,_,_,Nat.zero_le _,rfl,rfl,HG.out,HP.out,HB.out⟩
   case round =>
    clear hz hl hgl hgg
    obtain ⟨j,B2,d2,hj,rfl,rfl,hg,hp,hb⟩:=hrel
    obtain ⟨wi,rfl⟩:=qe wr
    have hz:=hb.size
    have hl:=hp.lt
    have hgl:=hg.lt
    have hgg:=hg.ge
    have HG3:=hdQ hg
    have HP3:=hdQ hp
    have HB3:=hdQ hb
    have q10:wi.cell? ⟨w.heap.size,10,none⟩=some (.slice Q s.ss.length qc):=hp.cell 10
    clear hg hp hb y9 y10
    by_cases hlj:j<s.ss.length
    ·obtain ⟨b,o,rfl,hbh,hsf⟩:=H0.out.ss.2.2 j hlj
     have hsw:=hsf.below HB3.out hbh
     have HLS:=hdQ (linesAt_surf (k:=s.ps.length) hlj)
     have HSO:=hdQ (surfsTo_at HIS.out.surf hlj)
     obtain ⟨⟨p,q,sh,rt⟩,hx⟩:∃ x,s.ss[j]=x:=⟨_,rfl⟩
     rw [hx] at hsw HLS HSO
     (try dsimp only at hsw)
     have hso:=HSO.out
     rw [surfOk_def] at hso
     simp only [Bool.and_eq_true] at hso
     have HV1:=hdQ hso.1
     have HV2:=hdQ hso.2.1
     obtain ⟨w1',w2',V,hV,hld,hal,hst,hlv,hz3,hbw,how⟩:=surf_box hsw
     have HLD:=hdQ hld
     have HAL:=hdQ hal
     have HST:=hdQ hst
     have HOW:=hdQ how
     have HBW:=qh (Below w.heap.size w w2') (Below.step hbw HB3.out HB3.out.size)
     have HPW:=qh (Own w2' w.heap.size 30 [.int .i64 s.a,.int .i64 s.b,.int .i64 s.c,.int .i64 s.d,.bool s.e,.int .i64 s.f,.int .i64 s.g,.int .i64 s.log,.slice TA s.tex.length tc,.slice P s.ps.length pc,.slice (some ⟨b,o,none⟩) s.ss.length qc,.int .i64 s.side]) (Own.step hbw HP3.out)
     have HGW:=qh (Zah w2' (w.heap.size+1) 9 1 B2 (3+s.ps.length+j) d2 (Zam (Zan s s.ps.length j))) (Zah.step hbw HG3.out)
     have HC1:=qh (∀ wx,Below w.heap.size w wx->CB_ Tryz.prog 58 #[.int .i64 sh] wx (str (fmtI sh))) (HNI.out sh)
     have HC2:=qh (∀ wx,Below w.heap.size w wx->CB_ Tryz.prog 58 #[.int .i64 rt] wx (str (fmtI rt))) (HNI.out rt)
     have HC3:=qh (∀ wx,Below w.heap.size w wx->CB_ Tryz.prog 67 #[Zcd p] wx (str (Zeb p))) (HPT.out p HV1.out)
     have HC4:=qh (∀ wx,Below w.heap.size w wx->CB_ Tryz.prog 67 #[Zcd q] wx (str (Zeb q))) (HPT.out q HV2.out)
     have HL1:=hdQ (Zb0 sh)
     have HL2:=hdQ (Zb0 rt)
     have HL3:=hdQ (Zez p)
     have HL4:=hdQ (Zez q)
     have HSF:=qh (surfT (p,q,sh,rt)=[115,117,114,102,97,99,101,32]++fmtI sh++[32]++fmtI rt++[32]++Zeb p++[32]++Zeb q) rfl
     have HSJ:=qh (surfT (p,q,sh,rt)=join [[115,117,114,102,97,99,101],fmtI sh,fmtI rt,Zeb p,Zeb q] [32]) (surfT_join (p,q,sh,rt)).symm
     have HTL:=hdQ (surfT_len (p,q,sh,rt))
     obtain ⟨Y,hY⟩:=qv (surfT (p,q,sh,rt))
     rw [hY] at HSF HSJ HTL HLS
     have HS:=qh (Zam (Zan s s.ps.length (j+1))=Zam (Zan s s.ps.length j)++[str Y]) (by rw [HLS.out,<- Za6];rfl)
     generalize hG:wi.heap.size=G at *
     obtain ⟨F1,hF1⟩:∃ F,fmtI sh=F:=⟨_,rfl⟩
     obtain ⟨F2,hF2⟩:∃ F,fmtI rt=F:=⟨_,rfl⟩
     obtain ⟨F3,hF3⟩:∃ F,Zeb p=F:=⟨_,rfl⟩
     obtain ⟨F4,hF4⟩:∃ F,Zeb q=F:=⟨_,rfl⟩
     rw [hF1] at HC1 HL1
     rw [hF2] at HC2 HL2
     rw [hF3] at HC3 HL3
     rw [hF4] at HC4 HL4
     rw [hF1,hF2,hF3,hF4] at HSF HSJ
     have hl1:F1.length<=11:=HL1.out
     have hl2:F2.length<=11:=HL2.out
     have hl3:F3.length<=147:=HL3.out
     have hl4:F4.length<=147:=HL4.out
     have a1:¬ 9223372036854775807<8+F1.length:=qo
     have a2:¬ 9223372036854775807<8+F1.length+1:=qo
     have a3:¬ 9223372036854775807<8+F1.length+1+F2.length:=qo
     have a4:¬ 9223372036854775807<8+F1.length+1+F2.length+1:=qo
     have a5:¬ 9223372036854775807<8+F1.length+1+F2.length+1+F3.length:=qo
     have a6:¬ 9223372036854775807<8+F1.length+1+F2.length+1+F3.length+1:=qo
     have a7:¬ 9223372036854775807<8+F1.length+1+F2.length+1+F3.length+1+F4.length:=qo
     have j1:(j:Int)<s.ss.length:=qo
     have j2:(0:Int)<=j:=qo
     have hGw:w.heap.size<G:=qo
     clear hsf hsw hx hV hld hal hst hlv hbw how hso hY hF1 hF2 hF3 hF4 hl1 hl2 hl3 hl4
     go_upto_region 12 with (first|(refine Zaj rfl 45 (.tmp 44) rfl rfl HLD.out ?_)|(refine Zao rfl 45 rfl HAL.out ?_)|(refine Zaf rfl 45 (.tmp 7) (.tmp 45) rfl rfl rfl HST.out ?_)|fail)
     refine wp_region_held_drew (S:=λw'=>∀ (m:Nat) (v:Value),(cSurf p q sh rt)[m]? = some v->w'.cell? ⟨G,m,none⟩=some v) kr ?_ (λhHeld1=>?_)
     ·exact λm v hv=>(HOW.out.cell m).trans hv
     refine tkH 0 ?_;(try simp only [LO,Act.put])
     refine tkH 1 ?_;(try simp only [LO,Act.put])
     (refine wpAnyH_take (i:=2) (v:=?_) rfl kr kr kr (λ_ _ _ h=>h) (Or.inl ⟨qr, ?_⟩) ‹_› ?_;rotate_left;focus (intro w hSw;(try dsimp only at hSw);have e24:=hSw 24 _ rfl;(try simp only [Nat.zero_add] at *);go_simp;try with_reducible rfl));(try simp only [LO,Act.put])
     refine tkH 6 ?_;(try simp only [LO,Act.put])
     (refine wpAnyH_take (i:=7) (v:=?_) rfl kr kr kr (λ_ _ _ h=>h) (Or.inl ⟨qr, ?_⟩) ‹_› ?_;rotate_left;focus (intro w hSw;(try dsimp only at hSw);have e25:=hSw 25 _ rfl;(try simp only [Nat.zero_add] at *);go_simp;try with_reducible rfl));(try simp only [LO,Act.put])
     refine tkH 11 ?_;(try simp only [LO,Act.put])
     (refine wpAnyH_take (i:=12) (v:=?_) rfl kr kr kr (λ_ _ _ h=>h) (Or.inl ⟨qr, ?_⟩) ‹_› ?_;rotate_left;focus (intro w hSw;(try dsimp only at hSw);have e0:=hSw 0 _ rfl;have e1:=hSw 1 _ rfl;have e2:=hSw 2 _ rfl;have e3:=hSw 3 _ rfl;have e4:=hSw 4 _ rfl;have e5:=hSw 5 _ rfl;have e6:=hSw 6 _ rfl;have e7:=hSw 7 _ rfl;have e8:=hSw 8 _ rfl;have e9:=hSw 9 _ rfl;have e10:=hSw 10 _ rfl;have e11:=hSw 11 _ rfl;(try simp only [Nat.zero_add] at *);go_simp;try with_reducible rfl));(try simp only [LO,Act.put])
     refine tkH 16 ?_;(try simp only [LO,Act.put])
     (refine wpAnyH_take (i:=17) (v:=?_) rfl kr kr kr (λ_ _ _ h=>h) (Or.inl ⟨qr, ?_⟩) ‹_› ?_;rotate_left;focus (intro w hSw;(try dsimp only at hSw);have e12:=hSw 12 _ rfl;have e13:=hSw 13 _ rfl;have e14:=hSw 14 _ rfl;have e15:=hSw 15 _ rfl;have e16:=hSw 16 _ rfl;have e17:=hSw 17 _ rfl;have e18:=hSw 18 _ rfl;have e19:=hSw 19 _ rfl;have e20:=hSw 20 _ rfl;have e21:=hSw 21 _ rfl;have e22:=hSw 22 _ rfl;have e23:=hSw 23 _ rfl;(try simp only [Nat.zero_add] at *);go_simp;try with_reducible rfl));(try simp only [LO,Act.put])
     refine wpAnyH_ready (rs:=[3]) kr qs ?_
     refine AllReadyH.cons rfl (λK hK=>?_) AllReadyH.nil
     go_simp
     (go_at_call 58;(with_reducible refine (HC1.out _ bll).mono ?_);rintro e wA ⟨rfl,hbwA⟩;have hzwA:=hbwA.size;(try simp at hzwA);have HBwA:=bh w hbwA;have HPwA:=qh (Own wA w.heap.size 30 [.int .i64 s.a,.int .i64 s.b,.int .i64 s.c,.int .i64 s.d,.bool s.e,.int .i64 s.f,.int .i64 s.g,.int .i64 s.log,.slice TA s.tex.length tc,.slice P s.ps.length pc,.slice (some ⟨b,o,none⟩) s.ss.length qc,.int .i64 s.side]) (Own.step hbwA (owx HPW.out));have HGwA:=qh (Zah wA (w.heap.size+1) 9 1 B2 (3+s.ps.length+j) d2 (Zam (Zan s s.ps.length j))) (Zah.step hbwA (gwx HGW.out)))
     (try go_wp2_with fail)
     refine hK.out _ _ ?_ (λhHeld2=>?_)
     ·exact λm v hv=>(hbwA.cell (p:=⟨G,m,none⟩) omm).trans (hHeld1 m v hv)
     clear hK K hHeld1
     (try simp only [LO,Act.put])
     refine tkH 4 ?_;(try simp only [LO,Act.put])
     refine tkH 5 ?_;(try simp only [LO,Act.put])
     refine wpAnyH_ready (rs:=[8]) kr qs ?_
     refine AllReadyH.cons rfl (λK hK=>?_) AllReadyH.nil
     go_simp
     (go_at_call 58;(with_reducible refine (HC2.out _ bll).mono ?_);rintro e wB ⟨rfl,hbwB⟩;have hzwB:=hbwB.size;(try simp at hzwB);have HBwB:=bh w hbwB;have HPwB:=qh (Own wB w.heap.size 30 [.int .i64 s.a,.int .i64 s.b,.int .i64 s.c,.int .i64 s.d,.bool s.e,.int .i64 s.f,.int .i64 s.g,.int .i64 s.log,.slice TA s.tex.length tc,.slice P s.ps.length pc,.slice (some ⟨b,o,none⟩) s.ss.length qc,.int .i64 s.side]) (Own.step hbwB (owx HPwA.out));have HGwB:=qh (Zah wB (w.heap.size+1) 9 1 B2 (3+s.ps.length+j) d2 (Zam (Zan s s.ps.length j))) (Zah.step hbwB (gwx HGwA.out)))
     (try go_wp2_with fail)
     refine hK.out _ _ ?_ (λhHeld3=>?_)
     ·exact λm v hv=>(hbwB.cell (p:=⟨G,m,none⟩) omm).trans (hHeld2 m v hv)
     clear hK K hHeld2
     (try simp only [LO,Act.put])
     refine tkH 9 ?_;(try simp only [LO,Act.put])
     refine tkH 10 ?_;(try simp only [LO,Act.put])
     refine wpAnyH_ready (rs:=[13]) kr qs ?_
     refine AllReadyH.cons rfl (λK hK=>?_) AllReadyH.nil
     go_simp
     (go_at_call 67;(with_reducible refine (HC3.out _ bll).mono ?_);rintro e wC ⟨rfl,hbwC⟩;have hzwC:=hbwC.size;(try simp at hzwC);have HBwC:=bh w hbwC;have HPwC:=qh (Own wC w.heap.size 30 [.int .i64 s.a,.int .i64 s.b,.int .i64 s.c,.int .i64 s.d,.bool s.e,.int .i64 s.f,.int .i64 s.g,.int .i64 s.log,.slice TA s.tex.length tc,.slice P s.ps.length pc,.slice (some ⟨b,o,none⟩) s.ss.length qc,.int .i64 s.side]) (Own.step hbwC (owx HPwB.out));have HGwC:=qh (Zah wC (w.heap.size+1) 9 1 B2 (3+s.ps.length+j) d2 (Zam (Zan s s.ps.length j))) (Zah.step hbwC (gwx HGwB.out)))
     (try go_wp2_with fail)
     refine hK.out _ _ ?_ (λhHeld4=>?_)
     ·exact λm v hv=>(hbwC.cell (p:=⟨G,m,none⟩) omm).trans (hHeld3 m v hv)
     clear hK K hHeld3
     (try simp only [LO,Act.put])
     refine tkH 14 ?_;(try simp only [LO,Act.put])
     refine tkH 15 ?_;(try simp only [LO,Act.put])
     refine wpAnyH_ready (rs:=[18]) kr qs ?_
     refine AllReadyH.cons rfl (λK hK=>?_) AllReadyH.nil
     go_simp
     (go_at_call 67;(with_reducible refine (HC4.out _ bll).mono ?_);rintro e wD ⟨rfl,hbwD⟩;have hzwD:=hbwD.size;(try simp at hzwD);have HBwD:=bh w hbwD;have HPwD:=qh (Own wD w.heap.size 30 [.int .i64 s.a,.int .i64 s.b,.int .i64 s.c,.int .i64 s.d,.bool s.e,.int .i64 s.f,.int .i64 s.g,.int .i64 s.log,.slice TA s.tex.length tc,.slice P s.ps.length pc,.slice (some ⟨b,o,none⟩) s.ss.length qc,.int .i64 s.side]) (Own.step hbwD (owx HPwC.out));have HGwD:=qh (Zah wD (w.heap.size+1) 9 1 B2 (3+s.ps.length+j) d2 (Zam (Zan s s.ps.length j))) (Zah.step hbwD (gwx HGwC.out)))
     (try go_wp2_with fail)
     refine hK.out _ _ ?_ (λhHeld5=>?_)
     ·exact λm v hv=>(hbwD.cell (p:=⟨G,m,none⟩) omm).trans (hHeld4 m v hv)
     clear hK K hHeld4
     (try simp only [LO,Act.put])
     refine tkH 19 ?_;(try simp only [LO,Act.put])
     have HYE:=qh ([str Y]=[.string ({ data := #[115,117,114,102,97,99,101,32] }++{ data:=F1.toArray }++{ data := #[32] }++{ data:=F2.toArray }++{ data := #[32] }++{ data:=F3.toArray }++{ data := #[32] }++{ data:=F4.toArray })]) (by
      rw [HSF.out]
      show _=[Value.string (((((((({ data:=[115,117,114,102,97,99,101,32].toArray }:ByteArray)++{ data:=F1.toArray })++{ data:=[32].toArray })++{ data:=F2.toArray })++{ data:=[32].toArray })++{ data:=F3.toArray })++{ data:=[32].toArray })++{ data:=F4.toArray })]
      rw [Zab,Zab,Zab,Zab,Zab,Zab,Zab])
     refine wpAnyH_ready (rs:=[20]) kr qs ?_
     refine AllReadyH.cons rfl (λK hK=>?_) AllReadyH.nil
     go_simp
     skip
     (try go_wp2_with fail)
     refine hK.out _ _ ?_ (λhHeld6=>?_)
     ·exact λm v hv=>((Below.alloc (Below.refl wD.heap.size wD) (Nat.le_refl _) _).cell (p:=⟨G,m,none⟩) omm).trans (hHeld5 m v hv)
     clear hK K hHeld5
     (try simp only [LO,Act.put])
     refine wpAnyH_ready (rs:=[21]) kr qs ?_
     refine AllReadyH.cons rfl (λK hK=>?_) AllReadyH.nil
     refine Zea qr _ _ 50 qr (w.heap.size+1) 9 (.string ByteArray.empty) 1 16 Tryz.underlying50 T.infoString rfl qd (xs:=Zam (Zan s s.ps.length j)) qr ?_ (ys:=[.string ({ data := #[115,117,114,102,97,99,101,32] }++{ data:=F1.toArray }++{ data := #[32] }++{ data:=F2.toArray }++{ data := #[32] }++{ data:=F3.toArray }++{ data := #[32] }++{ data:=F4.toArray })]) qr ?_ (one_str _) ?_ ?_ ?_ ?_;(exact (gwx HGwD.out));(exact (ltt 1));(unfold maxLen;omega);(omega);(first|omega|(simp<;>omega));rintro A' c' w2 gA
     have g1:=gA.1
     have g2:=gA.2.1
     rw [<- HYE.out,<- HS.out] at g1
     have HG1:=hdQ g1
     have HB4:=qh (Below w.heap.size w w2) (Below.trans (Below.alloc HBwD.out qo _) (g2.mono qo))
     have HP4:=qh (Own w2 w.heap.size 30 [.int .i64 s.a,.int .i64 s.b,.int .i64 s.c,.int .i64 s.d,.bool s.e,.int .i64 s.f,.int .i64 s.g,.int .i64 s.log,.slice TA s.tex.length tc,.slice P s.ps.length pc,.slice (some ⟨b,o,none⟩) s.ss.length qc,.int .i64 s.side]) (Own.below (Own.alloc HPwD.out _) g2 qo)
     have hfar:=gA.far (b:=G) omm (λhx=>by have:=hgl G hx;omega)
     refine hK.out _ _ ?_ (λhHeldL=>?_)
     ·exact λm v hv=>(hfar.1 m).trans (hHeld6 m v hv)
     clear hK K hHeld6 gA g1 g2 hfar
     (try simp only [LO,Act.put])
     refine tkH 22 ?_;(try simp only [LO,Act.put])
     refine wpAnyH_done kr ?_ _
     all_goals
      go_wp2_with fail
      go_roundw
      case rel=>exact ⟨j+1,_,_,qo,qg,rfl,HG1.out,HP4.out,HB4.out⟩
      case measure=>exact qn
    ·obtain rfl:j=s.ss.length:=by omega
     have HRS:=qh (RS wi 1 B2 (Zaw s).length d2 (Zam (Zaw s))) (by
      have:=HG3.out.rs
      rw [Zdv] at this
      rw [show (Zaw s).length=3+s.ps.length+s.ss.length by rw [<- Zdv,Zf4 (Nat.le_refl _) (Nat.le_refl _)]]
      exact this)
     have HJL:=qh ((join (Zaw s) [10]).length<=660010) (lines_join HIS.out)
     have HLN:=qh ((Zaw s).length=3+s.ps.length+s.ss.length) (by rw [<- Zdv,Zf4 (Nat.le_refl _) (Nat.le_refl _)])
     have HJ:=qh (∀ wx,wx=wi->CB_ Tryz.prog 22 #[.slice B2 (3+s.ps.length+s.ss.length) d2,.string ⟨#[10]⟩] wx (str (join (Zaw s) [10]))) (λwx hx=>by
      subst hx
      rw [<- HLN.out]
      exact (S_Join (sep:=[10]) _ HRS.out (by have:=HJL.out;omega) qd).mono (λe w' h=>⟨h.1,by obtain ⟨_,rfl⟩:=h;exact Below.refl _ _⟩))
     obtain ⟨Y,hY⟩:=qv (join (Zaw s) [10])
     rw [hY] at HJ HJL HF
     have s9:¬ 9223372036854775807<Y.length+1:=by have:=HJL.out;omega
     clear hY
     go_wp2_with (first|(go_at_call 22;(with_reducible refine (HJ.out _ rfl).mono ?_);rintro e wA ⟨rfl,hbA⟩)|fail)
     go_ret
     refine ⟨?_,Below.step hbA HB3.out HB3.out.size⟩
     rw [HF.out]
     show Ending.returned (Value.string (({ data:=Y.toArray }:ByteArray)++{ data:=[10].toArray }))=_
     rw [Zab]
set_option maxHeartbeats 32000000 in
theorem I_FormatScene {s:EScene} {TA P Q:Option Addr} {tc pc qc:Nat} (w:World) (h:SceneIn w s TA tc P pc Q qc) (hta:Tab w) (hml:MLen w) :
  Calls Tryz.prog 11 #[vScene s TA tc P pc Q qc] w λe w'=>e=.returned (str (Zbj s))/\Below w.heap.size w w':=by
 have H0:=hdQ h
 have HVS:=qh (∀ b,Za0 s=b->∀ wx,Below w.heap.size w wx->CB_ Tryz.prog 27 #[vScene s TA tc P pc Q qc] wx (.bool b)) (λb hb wx hbx=>by subst hb;exact I_IsValidScene wx (h.step hbx))
 cases hok:Za0 s with
 | false =>
  have HF:=qh (Zbj s=[]) (by unfold Zbj;rw [hok];rfl)
  clear h hta hml
  go_enter Tryz.func11,Tryz.ntmps11
  go_wp2_with (first|(go_at_call 27;(with_reducible refine (HVS.out false hok _ bll).mono ?_);rintro e w1 ⟨rfl,hb1⟩;have HB1:=bh w hb1;clear hb1)|fail)
  go_ret
  exact ⟨by rw [HF.out];rfl,HB1.out⟩
 | true =>
 have HIS:=hdQ (sceneIs hok)
 have HF:=qh (Zbj s=join (Zaw s) [10]++[10]) (by unfold Zbj;rw [hok];rfl)
 have hnp:=HIS.out.np
 have hns:=HIS.out.ns
 have HCM:=qh (∀ wx,Below w.heap.size w wx->CB_ Tryz.prog 40 #[Zbl s.a s.b s.c s.d s.e s.f s.g] wx (str (camT s.a s.b s.c s.d s.e s.f s.g))) (λwx hbx=>I_FormatCamera _ _ _ _ _ _ _ wx HIS.out.cam (hta.step hbx))
 have HTX:=qh (∀ wx,Below w.heap.size w wx->CB_ Tryz.prog 41 #[Zcc s.log (.slice TA s.tex.length tc)] wx (str (texT s.log s.tex))) (λwx hbx=>by have:=I_FormatTexture (log:=s.log) wx (RS.step hbx h.tex) (hta.step hbx);rw [if_pos HIS.out.tex] at this;exact this)
 have HNI:=qh (∀ (n:Int) wx,Below w.heap.size w wx->CB_ Tryz.prog 42 #[.int .i64 n] wx (str (fmtI n))) (λn wx hbx=>Zdy n wx (hta.step hbx))
 have HPT:=qh (∀ p,Za8 p=true->∀ wx,Below w.heap.size w wx->CB_ Tryz.prog 46 #[Zcd p] wx (str (Zeb p))) (λp hp wx hbx=>I_FormatPatch p wx hp (hta.step hbx))
 have HPR:Hid (∀ {A A2:Option Addr} {c c2:Nat} {p:Zae} wx,Below w.heap.size w wx->Zdl w A c A2 c2 p->p.1.length<=1048576->p.2.length<=1048576->CB_ Tryz.prog 44 #[Zbs A p.1.length c A2 p.2.length c2] wx (str (progF p))):=hdQ (λwx hbx hp h1 h2=>I_FormatProgram wx (hp.step hbx) h1 h2 (hta.step hbx))
 have HFL:=qh (∀ (l:List UInt8) wx,Below w.heap.size w wx->l.length<=1048576->CB_ Tryz.prog 43 #[str l,.string ⟨#[10]⟩,.string ⟨#[32]⟩] wx (str (flatT l))) (λl wx hbx hl=>I_ReplaceAll l wx hl (hml.step hbx))
 have HX1:=hdQ (camT_len s.a s.b s.c s.d s.e s.f s.g)
 have HX2:=hdQ (texT_len (log:=s.log) (Zd8 HIS.out.tex).2.2.1)
 have HX3:=hdQ (Zb0 s.side)
 have HNS:=hdQ (HNI.out s.side)
 obtain ⟨X1,hX1⟩:∃ X,camT s.a s.b s.c s.d s.e s.f s.g=X:=⟨_,rfl⟩
 obtain ⟨X2,hX2⟩:∃ X,texT s.log s.tex=X:=⟨_,rfl⟩
 obtain ⟨X3,hX3⟩:∃ X,fmtI s.side=X:=⟨_,rfl⟩
 have HHL:=qh (Zam (Zan s 0 0)=[.string ({ data := #[99,97,109,101,114,97,32] }++{ data:=X1.toArray }),.string ({ data := #[116,101,120,116,117,114,101,32] }++{ data:=X2.toArray }),.string ({ data := #[115,105,100,101,32] }++{ data:=X3.toArray })]) (by
  subst hX1;subst hX2;subst hX3
  show Zam (headL s++[]++[])=_
  rw [List.append_nil,List.append_nil]
  show [str _,str _,str _]=[Value.string (({ data:=[99,97,109,101,114,97,32].toArray }:ByteArray)++_),Value.string (({ data:=[116,101,120,116,117,114,101,32].toArray }:ByteArray)++_),Value.string (({ data:=[115,105,100,101,32].toArray }:ByteArray)++_)]
  rw [Zab,Zab,Zab])
 rw [hX1] at HCM HX1
 rw [hX2] at HTX HX2
 rw [hX3] at HNS HX3
 have s1:¬ 9223372036854775807<7+X1.length:=by have:=HX1.out;omega
 have s2:¬ 9223372036854775807<8+X2.length:=by have:=HX2.out;omega
 have s3:¬ 9223372036854775807<5+X3.length:=by have:=HX3.out;omega
 have HPZ:=qh (Own (w.alloc (.cells #[.int .i64 s.a,.int .i64 s.b,.int .i64 s.c,.int .i64 s.d,.bool s.e,.int .i64 s.f,.int .i64 s.g,.int .i64 s.log,.slice TA s.tex.length tc,.slice P s.ps.length pc,.slice Q s.ss.length qc,.int .i64 s.side] 30)) w.heap.size 30 [.int .i64 s.a,.int .i64 s.b,.int .i64 s.c,.int .i64 s.d,.bool s.e,.int .i64 s.f,.int .i64 s.g,.int .i64 s.log,.slice TA s.tex.length tc,.slice P s.ps.length pc,.slice Q s.ss.length qc,.int .i64 s.side]) (Own.new w _ #[_,_,_,_,_,_,_,_,_,_,_,_])
 clear h hX1 hX2 hX3 hta hml
 go_enter Tryz.func11,Tryz.ntmps11
 go_upto_region 3 with (first|(go_at_call 27;(with_reducible refine (HVS.out true hok _ bll).mono ?_);rintro e w1 ⟨rfl,hb1⟩;have hz1:=hb1.size;(try simp at hz1);have HB1:=bh w hb1;have HP1:=qh (Own w1 w.heap.size 30 [.int .i64 s.a,.int .i64 s.b,.int .i64 s.c,.int .i64 s.d,.bool s.e,.int .i64 s.f,.int .i64 s.g,.int .i64 s.log,.slice TA s.tex.length tc,.slice P s.ps.length pc,.slice Q s.ss.length qc,.int .i64 s.side]) (Own.step hb1 HPZ.out);clear hb1)|fail)
 have t0:w1.cell? ⟨w.heap.size,0,none⟩=some (.int .i64 s.a):=HP1.out.cell 0
 have t1:w1.cell? ⟨w.heap.size,1,none⟩=some (.int .i64 s.b):=HP1.out.cell 1
 have t2:w1.cell? ⟨w.heap.size,2,none⟩=some (.int .i64 s.c):=HP1.out.cell 2
 have t3:w1.cell? ⟨w.heap.size,3,none⟩=some (.int .i64 s.d):=HP1.out.cell 3
 have t4:w1.cell? ⟨w.heap.size,4,none⟩=some (.bool s.e):=HP1.out.cell 4
 have t5:w1.cell? ⟨w.heap.size,5,none⟩=some (.int .i64 s.f):=HP1.out.cell 5
 have t6:w1.cell? ⟨w.heap.size,6,none⟩=some (.int .i64 s.g):=HP1.out.cell 6
 have t7:w1.cell? ⟨w.heap.size,7,none⟩=some (.int .i64 s.log):=HP1.out.cell 7
 have t8:w1.cell? ⟨w.heap.size,8,none⟩=some (.slice TA s.tex.length tc):=HP1.out.cell 8
 have t9:w1.cell? ⟨w.heap.size,9,none⟩=some (.slice P s.ps.length pc):=HP1.out.cell 9
 have t10:w1.cell? ⟨w.heap.size,10,none⟩=some (.slice Q s.ss.length qc):=HP1.out.cell 10
 have t11:w1.cell? ⟨w.heap.size,11,none⟩=some (.int .i64 s.side):=HP1.out.cell 11
 clear HVS HPZ
 go_cut [3] (λs3 wx=>∃ B,s3=.slice (some ⟨B,0,none⟩) 3 3/\Zah wx (w.heap.size+1) 9 1 (some ⟨B,0,none⟩) 3 3 (Zam (Zan s 0 0))/\Own wx w.heap.size 30 [.int .i64 s.a,.int .i64 s.b,.int .i64 s.c,.int .i64 s.d,.bool s.e,.int .i64 s.f,.int .i64 s.g,.int .i64 s.log,.slice TA s.tex.length tc,.slice P s.ps.length pc,.slice Q s.ss.length qc,.int .i64 s.side]/\Below w.heap.size w wx)
 case first =>
  go_region_held3 (λw'=>w'.cell? ⟨w.heap.size,0,none⟩=some (.int .i64 s.a)/\w'.cell? ⟨w.heap.size,1,none⟩=some (.int .i64 s.b)/\w'.cell? ⟨w.heap.size,2,none⟩=some (.int .i64 s.c)/\w'.cell? ⟨w.heap.size,3,none⟩=some (.int .i64 s.d)/\w'.cell? ⟨w.heap.size,4,none⟩=some (.bool s.e)/\w'.cell? ⟨w.heap.size,5,none⟩=some (.int .i64 s.f)/\w'.cell? ⟨w.heap.size,6,none⟩=some (.int .i64 s.g)/\w'.cell? ⟨w.heap.size,7,none⟩=some (.int .i64 s.log)/\w'.cell? ⟨w.heap.size,8,none⟩=some (.slice TA s.tex.length tc)/\w'.cell? ⟨w.heap.size,11,none⟩=some (.int .i64 s.side))
   (first|go_keep|((try dsimp only);refine ⟨?_, ?_, ?_, ?_, ?_, ?_, ?_, ?_, ?_, ?_⟩<;>(go_simp;done)))
   (first|(go_at_call 40;(with_reducible refine (HCM.out _ bll).mono ?_);rintro e wA ⟨rfl,hbA⟩;have hzA:=hbA.size;(try simp at hzA);(refine Zai hbA (w.heap.size) ?_ ?_;(first|omega|(simp<;>omega));intro n0 nf0 nz0))|(go_at_call 41;(with_reducible refine (HTX.out _ bll).mono ?_);rintro e wB ⟨rfl,hbB⟩;have hzB:=hbB.size;(try simp at hzB);(refine Zai hbB (w.heap.size) ?_ ?_;(first|omega|(simp<;>omega));intro m0 mf0 mz0))|(go_at_call 42;(with_reducible refine (HNS.out _ bll).mono ?_);rintro e wC ⟨rfl,hbC⟩;have hzC:=hbC.size;(try simp at hzC);(refine Zai hbC (w.heap.size) ?_ ?_;(first|omega|(simp<;>omega));intro q0 qf0 qz0))|fail)
  all_goals
   go_wp2_with fail
   go_meet
   refine ⟨_,rfl, ?_,(owx HP1.out),bll⟩
   rw [HHL.out]
   repeat (first|(with_reducible refine Zah.drewN ?_ _)|(with_reducible refine Zah.drew ?_)|(refine Zah.lit_at (cs := #[_,_,_]) (by first|rfl|simp) qr ?_ qd))
   all_goals (first|omega|(simp<;>omega))
 case rest =>
 obtain ⟨B0,rfl,hg0,hp0,hb0⟩:=hcut
 have HG0:=hdQ hg0
 have HP0:=hdQ hp0
 have HB0:=hdQ hb0
 have u0:wc.cell? ⟨w.heap.size,0,none⟩=some (.int .i64 s.a):=hp0.cell 0
 have u1:wc.cell? ⟨w.heap.size,1,none⟩=some (.int .i64 s.b):=hp0.cell 1
 have u2:wc.cell? ⟨w.heap.size,2,none⟩=some (.int .i64 s.c):=hp0.cell 2
 have u3:wc.cell? ⟨w.heap.size,3,none⟩=some (.int .i64 s.d):=hp0.cell 3
 have u4:wc.cell? ⟨w.heap.size,4,none⟩=some (.bool s.e):=hp0.cell 4
 have u5:wc.cell? ⟨w.heap.size,5,none⟩=some (.int .i64 s.f):=hp0.cell 5
 have u6:wc.cell? ⟨w.heap.size,6,none⟩=some (.int .i64 s.g):=hp0.cell 6
 have u7:wc.cell? ⟨w.heap.size,7,none⟩=some (.int .i64 s.log):=hp0.cell 7
 have u8:wc.cell? ⟨w.heap.size,8,none⟩=some (.slice TA s.tex.length tc):=hp0.cell 8
 have u9:wc.cell? ⟨w.heap.size,9,none⟩=some (.slice P s.ps.length pc):=hp0.cell 9
 have u10:wc.cell? ⟨w.heap.size,10,none⟩=some (.slice Q s.ss.length qc):=hp0.cell 10
 have u11:wc.cell? ⟨w.heap.size,11,none⟩=some (.int .i64 s.side):=hp0.cell 11
 clear hg0 hp0 hb0 HP1 HB1 HHL
 go_wp2_with fail
 go_loopw [3,5,27] (λls _ i wr=>∃ (k:Nat) (B:Option Addr) (d:Nat),k<=s.ps.length/\i=.int .i64 k/\ls=.slice B (3+k) d/\Zah wr (w.heap.size+1) 9 1 B (3+k) d (Zam (Zan s k 0))/\Own wr w.heap.size 30 [.int .i64 s.a,.int .i64 s.b,.int .i64 s.c,.int .i64 s.d,.bool s.e,.int .i64 s.f,.int .i64 s.g,.int .i64 s.log,.slice TA s.tex.length tc,.slice P s.ps.length pc,.slice Q s.ss.length qc,.int .i64 s.side]/\Below w.heap.size w wr) (λ_ _ i _=>s.ps.length-(RowKit.intOf i).toNat)
 case atStart=>exact ⟨0,_,_,Nat.zero_le _,rfl,rfl,HG0.out,HP0.out,HB0.out⟩
 case round =>
  obtain ⟨k,B,d,hk,rfl,rfl,hg,hp,hb⟩:=hrel
  obtain ⟨wo,rfl⟩:=qe wr
  have hz:=hb.size
  have hl:=hp.lt
  have hgl:=hg.lt
  have hgg:=hg.ge
  have HG:=hdQ hg
  have HP:=hdQ hp
  have HB:=hdQ hb
  have y9:wo.cell? ⟨w.heap.size,9,none⟩=some (.slice P s.ps.length pc):=hp.cell 9
  have y10:wo.cell? ⟨w.heap.size,10,none⟩=some (.slice Q s.ss.length qc):=hp.cell 10
  clear hg hp hb HG0 HP0 HB0
  by_cases hlt:k<s.ps.length
  ·obtain ⟨b,o,A1,c1,A2,c2,rfl,hbh,hpi,hn1,hn2,x0,x1⟩:=H0.out.ps.2.2 k hlt
   have z0:=(HB.out.cell (p:=⟨b,o+k*2,none⟩) hbh).trans x0
   have z1:=(HB.out.cell (p:=⟨b,o+k*2+1,none⟩) hbh).trans x1
   have HLS:=hdQ (linesAt_shad hlt)
   have HPE:=hdQ (scene_progT HIS.out hlt)
   have HPL:=hdQ (progT_len (Zco (Zfk HIS.out.shad hlt)))
   obtain ⟨x,hx⟩:=qv (s.ps[k])
   rw [hx] at z0 z1 HLS HPE HPL hpi hn1 hn2
   have HC:=qh (∀ wx,Below w.heap.size w wx->CB_ Tryz.prog 44 #[Zbs A1 x.1.length c1 A2 x.2.length c2] wx (str (Zem x))) (λwx hbx=>by rw [<- HPE.out];exact HPR.out wx hbx hpi hn1 hn2)
   have HC2:=qh (∀ wx,Below w.heap.size w wx->CB_ Tryz.prog 43 #[str (Zem x),.string ⟨#[10]⟩,.string ⟨#[32]⟩] wx (str (flatT (Zem x)))) (λwx hbx=>HFL.out _ wx hbx (by have:=HPL.out;omega))
   have HFT:=qh ((flatT (Zem x)).length<=51180) (by rw [Zes];exact HPL.out)
   have HS:=qh (Zam (Zan s (k+1) 0)=Zam (Zan s k 0)++[.string ({ data := #[115,104,97,100,101,114,32] }++{ data:=(flatT (Zem x)).toArray })]) (by
    rw [HLS.out,<- Za6]
    show _=Zam (Zan s k 0)++[Value.string (({ data:=[115,104,97,100,101,114,32].toArray }:ByteArray)++_)]
    rw [Zab];rfl)
   generalize flatT (Zem x)=Y at *
   have s4:¬ 9223372036854775807<7+Y.length:=by have:=HFT.out;omega
   have j1:(k:Int)<s.ps.length:=qo
   have j2:(0:Int)<=k:=qo
   have hwn:¬ wo.heap.size=w.heap.size:=qo
   clear hpi hx x0 x1
   go_wp2_with (first|(go_at_call 44;(with_reducible refine (HC.out _ bll).mono ?_);rintro e wA ⟨rfl,hbA⟩;have hzA:=hbA.size;(try simp at hzA);have HBA:=bh w hbA;have HPA:=qh (Own wA w.heap.size 30 [.int .i64 s.a,.int .i64 s.b,.int .i64 s.c,.int .i64 s.d,.bool s.e,.int .i64 s.f,.int .i64 s.g,.int .i64 s.log,.slice TA s.tex.length tc,.slice (some ⟨b,o,none⟩) s.ps.length pc,.slice Q s.ss.length qc,.int .i64 s.side]) (Own.step hbA (owx HP.out));have HGA:=qh (Zah wA (w.heap.size+1) 9 1 B (3+k) d (Zam (Zan s k 0))) (Zah.step hbA (gwx HG.out));clear hbA)|(go_at_call 43;(with_reducible refine (HC2.out _ HBA.out).mono ?_);rintro e wB ⟨rfl,hbB⟩;have hzB:=hbB.size;(try simp at hzB);have HBB:=qh (Below w.heap.size w wB) (Below.step hbB HBA.out HBA.out.size);have HPB:=qh (Own wB w.heap.size 30 [.int .i64 s.a,.int .i64 s.b,.int .i64 s.c,.int .i64 s.d,.bool s.e,.int .i64 s.f,.int .i64 s.g,.int .i64 s.log,.slice TA s.tex.length tc,.slice (some ⟨b,o,none⟩) s.ps.length pc,.slice Q s.ss.length qc,.int .i64 s.side]) (Own.step hbB HPA.out);have HGB:=qh (Zah wB (w.heap.size+1) 9 1 B (3+k) d (Zam (Zan s k 0))) (Zah.step hbB HGA.out);clear hbB)|(at_builtin;refine wpA (w.heap.size+1) Tryz.underlying50 T.infoString (Zam (Zan s k 0)) ([.string ({ data := #[115,104,97,100,101,114,32] }++{ data:=Y.toArray })]) (one_str _) ?_ ?_ ?_;exact (gwx HGB.out);exact (ltt 1);rintro A' c' w2 gA;have g1:=gA.1;have g2:=gA.2.1;rw [<- HS.out] at g1;have HG1:=hdQ g1;have HB2:=qh (Below w.heap.size w w2) (Below.trans (Below.alloc HBB.out qo _) (g2.mono qo));have HP2:=qh (Own w2 w.heap.size 30 [.int .i64 s.a,.int .i64 s.b,.int .i64 s.c,.int .i64 s.d,.bool s.e,.int .i64 s.f,.int .i64 s.g,.int .i64 s.log,.slice TA s.tex.length tc,.slice (some ⟨b,o,none⟩) s.ps.length pc,.slice Q s.ss.length qc,.int .i64 s.side]) (Own.below (Own.alloc HPB.out _) g2 qo);clear gA g1 g2)|fail)
   go_roundw
   case rel=>exact ⟨k+1,_,_,qo,qg,rfl,HG1.out,HP2.out,HB2.out⟩
   case measure=>exact qn
  ·obtain rfl:k=s.ps.length:=by omega
   go_wp2_with fail
   go_loopw [3,7,42] (λls _ i wr=>∃ (j:Nat) (B:Option Addr) (d:Nat),j<=s.ss.length/\i=.int .i64 j/\ls=.slice B (3+s.ps.length+j) d/\Zah wr (w.heap.size+1) 9 1 B (3+s.ps.length+j) d (Zam (Zan s s.ps.length j))/\Own wr w.heap.size 30 [.int .i64 s.a,.int .i64 s.b,.int .i64 s.c,.int .i64 s.d,.bool s.e,.int .i64 s.f,.int .i64 s.g,.int .i64 s.log,.slice TA s.tex.length tc,.slice P s.ps.length pc,.slice Q s.ss.length qc,.int .i64 s.side]/\Below w.heap.size w wr) (λ_ _ i _=>s.ss.length-(RowKit.intOf i).toNat)
   case atStart=>exact ⟨0,_,_,Nat.zero_le _,rfl,rfl,HG.out,HP.out,HB.out⟩
   case round =>
    clear hz hl hgl hgg
    obtain ⟨j,B2,d2,hj,rfl,rfl,hg,hp,hb⟩:=hrel
    obtain ⟨wi,rfl⟩:=qe wr
    have hz:=hb.size
    have hl:=hp.lt
    have hgl:=hg.lt
    have hgg:=hg.ge
    have HG3:=hdQ hg
    have HP3:=hdQ hp
    have HB3:=hdQ hb
    have q10:wi.cell? ⟨w.heap.size,10,none⟩=some (.slice Q s.ss.length qc):=hp.cell 10
    clear hg hp hb y9 y10
    by_cases hlj:j<s.ss.length
    ·obtain ⟨b,o,rfl,hbh,hsf⟩:=H0.out.ss.2.2 j hlj
     have hsw:=hsf.below HB3.out hbh
     have HLS:=hdQ (linesAt_surf (k:=s.ps.length) hlj)
     have HSO:=hdQ (surfsTo_at HIS.out.surf hlj)
     obtain ⟨⟨p,q,sh,rt⟩,hx⟩:∃ x,s.ss[j]=x:=⟨_,rfl⟩
     rw [hx] at hsw HLS HSO
     (try dsimp only at hsw)
     have hso:=HSO.out
     rw [surfOk_def] at hso
     simp only [Bool.and_eq_true] at hso
     have HV1:=hdQ hso.1
     have HV2:=hdQ hso.2.1
     obtain ⟨w1',w2',V,hV,hld,hal,hst,hlv,hz3,hbw,how⟩:=surf_box hsw
     have HLD:=hdQ hld
     have HAL:=hdQ hal
     have HST:=hdQ hst
     have HOW:=hdQ how
     have HBW:=qh (Below w.heap.size w w2') (Below.step hbw HB3.out HB3.out.size)
     have HPW:=qh (Own w2' w.heap.size 30 [.int .i64 s.a,.int .i64 s.b,.int .i64 s.c,.int .i64 s.d,.bool s.e,.int .i64 s.f,.int .i64 s.g,.int .i64 s.log,.slice TA s.tex.length tc,.slice P s.ps.length pc,.slice (some ⟨b,o,none⟩) s.ss.length qc,.int .i64 s.side]) (Own.step hbw HP3.out)
     have HGW:=qh (Zah w2' (w.heap.size+1) 9 1 B2 (3+s.ps.length+j) d2 (Zam (Zan s s.ps.length j))) (Zah.step hbw HG3.out)
     have HC1:=qh (∀ wx,Below w.heap.size w wx->CB_ Tryz.prog 42 #[.int .i64 sh] wx (str (fmtI sh))) (HNI.out sh)
     have HC2:=qh (∀ wx,Below w.heap.size w wx->CB_ Tryz.prog 42 #[.int .i64 rt] wx (str (fmtI rt))) (HNI.out rt)
     have HC3:=qh (∀ wx,Below w.heap.size w wx->CB_ Tryz.prog 46 #[Zcd p] wx (str (Zeb p))) (HPT.out p HV1.out)
     have HC4:=qh (∀ wx,Below w.heap.size w wx->CB_ Tryz.prog 46 #[Zcd q] wx (str (Zeb q))) (HPT.out q HV2.out)
     have HL1:=hdQ (Zb0 sh)
     have HL2:=hdQ (Zb0 rt)
     have HL3:=hdQ (Zez p)
     have HL4:=hdQ (Zez q)
     have HSF:=qh (surfT (p,q,sh,rt)=[115,117,114,102,97,99,101,32]++fmtI sh++[32]++fmtI rt++[32]++Zeb p++[32]++Zeb q) rfl
     have HSJ:=qh (surfT (p,q,sh,rt)=join [[115,117,114,102,97,99,101],fmtI sh,fmtI rt,Zeb p,Zeb q] [32]) (surfT_join (p,q,sh,rt)).symm
     have HTL:=hdQ (surfT_len (p,q,sh,rt))
     obtain ⟨Y,hY⟩:=qv (surfT (p,q,sh,rt))
     rw [hY] at HSF HSJ HTL HLS
     have HS:=qh (Zam (Zan s s.ps.length (j+1))=Zam (Zan s s.ps.length j)++[str Y]) (by rw [HLS.out,<- Za6];rfl)
     generalize hG:wi.heap.size=G at *
     obtain ⟨F1,hF1⟩:∃ F,fmtI sh=F:=⟨_,rfl⟩
     obtain ⟨F2,hF2⟩:∃ F,fmtI rt=F:=⟨_,rfl⟩
     obtain ⟨F3,hF3⟩:∃ F,Zeb p=F:=⟨_,rfl⟩
     obtain ⟨F4,hF4⟩:∃ F,Zeb q=F:=⟨_,rfl⟩
     rw [hF1] at HC1 HL1
     rw [hF2] at HC2 HL2
     rw [hF3] at HC3 HL3
     rw [hF4] at HC4 HL4
     rw [hF1,hF2,hF3,hF4] at HSF HSJ
     have hl1:F1.length<=11:=HL1.out
     have hl2:F2.length<=11:=HL2.out
     have hl3:F3.length<=147:=HL3.out
     have hl4:F4.length<=147:=HL4.out
     have j1:(j:Int)<s.ss.length:=qo
     have j2:(0:Int)<=j:=qo
     have hGw:w.heap.size<G:=qo
     clear hsf hsw hx hV hld hal hst hlv hbw how hso hY hF1 hF2 hF3 hF4 hl1 hl2 hl3 hl4
     go_upto_region 12 with (first|(refine Zaj rfl 45 (.tmp 44) rfl rfl HLD.out ?_)|(refine Zao rfl 45 rfl HAL.out ?_)|(refine Zaf rfl 45 (.tmp 7) (.tmp 45) rfl rfl rfl HST.out ?_)|fail)
     refine wp_region_held_drew (S:=λw'=>∀ (m:Nat) (v:Value),(cSurf p q sh rt)[m]? = some v->w'.cell? ⟨G,m,none⟩=some v) kr ?_ (λhHeld1=>?_)
     ·exact λm v hv=>(HOW.out.cell m).trans hv
     refine tkH 0 ?_;(try simp only [LO,Act.put])
     refine tkH 1 ?_;(try simp only [LO,Act.put])
     (refine wpAnyH_take (i:=2) (v:=?_) rfl kr kr kr (λ_ _ _ h=>h) (Or.inl ⟨qr, ?_⟩) ‹_› ?_;rotate_left;focus (intro w hSw;(try dsimp only at hSw);have e24:=hSw 24 _ rfl;(try simp only [Nat.zero_add] at *);go_simp;try with_reducible rfl));(try simp only [LO,Act.put])
     refine tkH 4 ?_;(try simp only [LO,Act.put])
     (refine wpAnyH_take (i:=5) (v:=?_) rfl kr kr kr (λ_ _ _ h=>h) (Or.inl ⟨qr, ?_⟩) ‹_› ?_;rotate_left;focus (intro w hSw;(try dsimp only at hSw);have e25:=hSw 25 _ rfl;(try simp only [Nat.zero_add] at *);go_simp;try with_reducible rfl));(try simp only [LO,Act.put])
     refine tkH 7 ?_;(try simp only [LO,Act.put])
     (refine wpAnyH_take (i:=8) (v:=?_) rfl kr kr kr (λ_ _ _ h=>h) (Or.inl ⟨qr, ?_⟩) ‹_› ?_;rotate_left;focus (intro w hSw;(try dsimp only at hSw);have e0:=hSw 0 _ rfl;have e1:=hSw 1 _ rfl;have e2:=hSw 2 _ rfl;have e3:=hSw 3 _ rfl;have e4:=hSw 4 _ rfl;have e5:=hSw 5 _ rfl;have e6:=hSw 6 _ rfl;have e7:=hSw 7 _ rfl;have e8:=hSw 8 _ rfl;have e9:=hSw 9 _ rfl;have e10:=hSw 10 _ rfl;have e11:=hSw 11 _ rfl;(try simp only [Nat.zero_add] at *);go_simp;try with_reducible rfl));(try simp only [LO,Act.put])
     refine tkH 10 ?_;(try simp only [LO,Act.put])
     (refine wpAnyH_take (i:=11) (v:=?_) rfl kr kr kr (λ_ _ _ h=>h) (Or.inl ⟨qr, ?_⟩) ‹_› ?_;rotate_left;focus (intro w hSw;(try dsimp only at hSw);have e12:=hSw 12 _ rfl;have e13:=hSw 13 _ rfl;have e14:=hSw 14 _ rfl;have e15:=hSw 15 _ rfl;have e16:=hSw 16 _ rfl;have e17:=hSw 17 _ rfl;have e18:=hSw 18 _ rfl;have e19:=hSw 19 _ rfl;have e20:=hSw 20 _ rfl;have e21:=hSw 21 _ rfl;have e22:=hSw 22 _ rfl;have e23:=hSw 23 _ rfl;(try simp only [Nat.zero_add] at *);go_simp;try with_reducible rfl));(try simp only [LO,Act.put])
     refine wpAnyH_ready (rs:=[3]) kr qs ?_
     refine AllReadyH.cons rfl (λK hK=>?_) AllReadyH.nil
     go_simp
     (go_at_call 42;(with_reducible refine (HC1.out _ bll).mono ?_);rintro e wA ⟨rfl,hbwA⟩;have hzwA:=hbwA.size;(try simp at hzwA);have HBwA:=bh w hbwA;have HPwA:=qh (Own wA w.heap.size 30 [.int .i64 s.a,.int .i64 s.b,.int .i64 s.c,.int .i64 s.d,.bool s.e,.int .i64 s.f,.int .i64 s.g,.int .i64 s.log,.slice TA s.tex.length tc,.slice P s.ps.length pc,.slice (some ⟨b,o,none⟩) s.ss.length qc,.int .i64 s.side]) (Own.step hbwA (owx HPW.out));have HGwA:=qh (Zah wA (w.heap.size+1) 9 1 B2 (3+s.ps.length+j) d2 (Zam (Zan s s.ps.length j))) (Zah.step hbwA (gwx HGW.out)))
     (try go_wp2_with fail)
     refine hK.out _ _ ?_ (λhHeld2=>?_)
     ·exact λm v hv=>(hbwA.cell (p:=⟨G,m,none⟩) omm).trans (hHeld1 m v hv)
     clear hK K hHeld1
     (try simp only [LO,Act.put])
     refine wpAnyH_ready (rs:=[6]) kr qs ?_
     refine AllReadyH.cons rfl (λK hK=>?_) AllReadyH.nil
     go_simp
     (go_at_call 42;(with_reducible refine (HC2.out _ bll).mono ?_);rintro e wB ⟨rfl,hbwB⟩;have hzwB:=hbwB.size;(try simp at hzwB);have HBwB:=bh w hbwB;have HPwB:=qh (Own wB w.heap.size 30 [.int .i64 s.a,.int .i64 s.b,.int .i64 s.c,.int .i64 s.d,.bool s.e,.int .i64 s.f,.int .i64 s.g,.int .i64 s.log,.slice TA s.tex.length tc,.slice P s.ps.length pc,.slice (some ⟨b,o,none⟩) s.ss.length qc,.int .i64 s.side]) (Own.step hbwB (owx HPwA.out));have HGwB:=qh (Zah wB (w.heap.size+1) 9 1 B2 (3+s.ps.length+j) d2 (Zam (Zan s s.ps.length j))) (Zah.step hbwB (gwx HGwA.out)))
     (try go_wp2_with fail)
     refine hK.out _ _ ?_ (λhHeld3=>?_)
     ·exact λm v hv=>(hbwB.cell (p:=⟨G,m,none⟩) omm).trans (hHeld2 m v hv)
     clear hK K hHeld2
     (try simp only [LO,Act.put])
     refine wpAnyH_ready (rs:=[9]) kr qs ?_
     refine AllReadyH.cons rfl (λK hK=>?_) AllReadyH.nil
     go_simp
     (go_at_call 46;(with_reducible refine (HC3.out _ bll).mono ?_);rintro e wC ⟨rfl,hbwC⟩;have hzwC:=hbwC.size;(try simp at hzwC);have HBwC:=bh w hbwC;have HPwC:=qh (Own wC w.heap.size 30 [.int .i64 s.a,.int .i64 s.b,.int .i64 s.c,.int .i64 s.d,.bool s.e,.int .i64 s.f,.int .i64 s.g,.int .i64 s.log,.slice TA s.tex.length tc,.slice P s.ps.length pc,.slice (some ⟨b,o,none⟩) s.ss.length qc,.int .i64 s.side]) (Own.step hbwC (owx HPwB.out));have HGwC:=qh (Zah wC (w.heap.size+1) 9 1 B2 (3+s.ps.length+j) d2 (Zam (Zan s s.ps.length j))) (Zah.step hbwC (gwx HGwB.out)))
     (try go_wp2_with fail)
     refine hK.out _ _ ?_ (λhHeld4=>?_)
     ·exact λm v hv=>(hbwC.cell (p:=⟨G,m,none⟩) omm).trans (hHeld3 m v hv)
     clear hK K hHeld3
     (try simp only [LO,Act.put])
     refine wpAnyH_ready (rs:=[12]) kr qs ?_
     refine AllReadyH.cons rfl (λK hK=>?_) AllReadyH.nil
     go_simp
     (go_at_call 46;(with_reducible refine (HC4.out _ bll).mono ?_);rintro e wD ⟨rfl,hbwD⟩;have hzwD:=hbwD.size;(try simp at hzwD);have HBwD:=bh w hbwD;have HPwD:=qh (Own wD w.heap.size 30 [.int .i64 s.a,.int .i64 s.b,.int .i64 s.c,.int .i64 s.d,.bool s.e,.int .i64 s.f,.int .i64 s.g,.int .i64 s.log,.slice TA s.tex.length tc,.slice P s.ps.length pc,.slice (some ⟨b,o,none⟩) s.ss.length qc,.int .i64 s.side]) (Own.step hbwD (owx HPwC.out));have HGwD:=qh (Zah wD (w.heap.size+1) 9 1 B2 (3+s.ps.length+j) d2 (Zam (Zan s s.ps.length j))) (Zah.step hbwD (gwx HGwC.out)))
     (try go_wp2_with fail)
     refine hK.out _ _ ?_ (λhHeld5=>?_)
     ·exact λm v hv=>(hbwD.cell (p:=⟨G,m,none⟩) omm).trans (hHeld4 m v hv)
     clear hK K hHeld4
     (try simp only [LO,Act.put])
     refine wpAnyH_ready (rs:=[13]) kr qs ?_
     refine AllReadyH.cons rfl (λK hK=>?_) AllReadyH.nil
     go_simp
     skip
     (try go_wp2_with fail)
     refine hK.out _ _ ?_ (λhHeld6=>?_)
     ·exact λm v hv=>((Below.alloc (Below.refl wD.heap.size wD) (Nat.le_refl _) _).cell (p:=⟨G,m,none⟩) omm).trans (hHeld5 m v hv)
     clear hK K hHeld5
     (try simp only [LO,Act.put])
     have HJ:=qh (∀ (wx:World) (A:Option Addr),RS wx 1 A 5 5 [.string ⟨#[115,117,114,102,97,99,101]⟩,str F1,str F2,str F3,str F4]->CB_ Tryz.prog 45 #[.slice A 5 5,.string ⟨#[32]⟩] wx (str Y)) (λwx A hr=>by
      rw [HSJ.out]
      exact I_Join (ls:=[[115,117,114,102,97,99,101],F1,F2,F3,F4]) (sep:=[32]) wx hr qs qs (by rw [<- HSJ.out];have:=HTL.out;omega))
     refine wpAnyH_ready (rs:=[14]) kr qs ?_
     refine AllReadyH.cons rfl (λK hK=>?_) AllReadyH.nil
     go_simp
     (go_at_call 45;(refine (HJ.out _ _ (ltt 5)).mono ?_);rintro e wE ⟨rfl,hbwE⟩;have hzwE:=hbwE.size;(try simp at hzwE);have HBwE:=bh w hbwE;have HPwE:=qh (Own wE w.heap.size 30 [.int .i64 s.a,.int .i64 s.b,.int .i64 s.c,.int .i64 s.d,.bool s.e,.int .i64 s.f,.int .i64 s.g,.int .i64 s.log,.slice TA s.tex.length tc,.slice P s.ps.length pc,.slice (some ⟨b,o,none⟩) s.ss.length qc,.int .i64 s.side]) (Own.step hbwE (owx HPwD.out));have HGwE:=qh (Zah wE (w.heap.size+1) 9 1 B2 (3+s.ps.length+j) d2 (Zam (Zan s s.ps.length j))) (Zah.step hbwE (gwx HGwD.out)))
     (try go_wp2_with fail)
     refine hK.out _ _ ?_ (λhHeld7=>?_)
     ·exact λm v hv=>(hbwE.cell (p:=⟨G,m,none⟩) omm).trans (hHeld6 m v hv)
     clear hK K hHeld6
     (try simp only [LO,Act.put])
     refine wpAnyH_ready (rs:=[15]) kr qs ?_
     refine AllReadyH.cons rfl (λK hK=>?_) AllReadyH.nil
     go_simp
     skip
     (try go_wp2_with fail)
     refine hK.out _ _ ?_ (λhHeld8=>?_)
     ·exact λm v hv=>((Below.alloc (Below.refl wE.heap.size wE) (Nat.le_refl _) _).cell (p:=⟨G,m,none⟩) omm).trans (hHeld7 m v hv)
     clear hK K hHeld7
     (try simp only [LO,Act.put])
     refine wpAnyH_ready (rs:=[16]) kr qs ?_
     refine AllReadyH.cons rfl (λK hK=>?_) AllReadyH.nil
     refine Zea qr _ _ 50 qr (w.heap.size+1) 9 (.string ByteArray.empty) 1 16 Tryz.underlying50 T.infoString rfl qd (xs:=Zam (Zan s s.ps.length j)) qr ?_ (ys:=[str Y]) qr ?_ (one_str _) ?_ ?_ ?_ ?_;(exact (gwx HGwE.out));(exact (ltt 1));(unfold maxLen;omega);(omega);(first|omega|(simp<;>omega));rintro A' c' w2 gA
     have g1:=gA.1
     have g2:=gA.2.1
     rw [<- HS.out] at g1
     have HG1:=hdQ g1
     have HB4:=qh (Below w.heap.size w w2) (Below.trans (Below.alloc HBwE.out qo _) (g2.mono qo))
     have HP4:=qh (Own w2 w.heap.size 30 [.int .i64 s.a,.int .i64 s.b,.int .i64 s.c,.int .i64 s.d,.bool s.e,.int .i64 s.f,.int .i64 s.g,.int .i64 s.log,.slice TA s.tex.length tc,.slice P s.ps.length pc,.slice (some ⟨b,o,none⟩) s.ss.length qc,.int .i64 s.side]) (Own.below (Own.alloc HPwE.out _) g2 qo)
     have hfar:=gA.far (b:=G) omm (λhx=>by have:=hgl G hx;omega)
     refine hK.out _ _ ?_ (λhHeldL=>?_)
     ·exact λm v hv=>(hfar.1 m).trans (hHeld8 m v hv)
     clear hK K hHeld8 gA g1 g2 hfar
     (try simp only [LO,Act.put])
     refine tkH 17 ?_;(try simp only [LO,Act.put])
     refine wpAnyH_done kr ?_ _
     all_goals
      go_wp2_with fail
      go_roundw
      case rel=>exact ⟨j+1,_,_,qo,qg,rfl,HG1.out,HP4.out,HB4.out⟩
      case measure=>exact qn
    ·obtain rfl:j=s.ss.length:=by omega
     have HRS:=qh (RS wi 1 B2 (Zaw s).length d2 (Zam (Zaw s))) (by
      have:=HG3.out.rs
      rw [Zdv] at this
      rw [show (Zaw s).length=3+s.ps.length+s.ss.length by rw [<- Zdv,Zf4 (Nat.le_refl _) (Nat.le_refl _)]]
      exact this)
     have HJL:=qh ((join (Zaw s) [10]).length<=660010) (lines_join HIS.out)
     have HLN:=qh ((Zaw s).length=3+s.ps.length+s.ss.length) (by rw [<- Zdv,Zf4 (Nat.le_refl _) (Nat.le_refl _)])
     have HJ:=qh (∀ wx,wx=wi->CB_ Tryz.prog 45 #[.slice B2 (3+s.ps.length+s.ss.length) d2,.string ⟨#[10]⟩] wx (str (join (Zaw s) [10]))) (λwx hx=>by
      subst hx
      rw [<- HLN.out]
      exact I_Join (sep:=[10]) _ HRS.out (by rw [HLN.out];omega) (by rw [HLN.out];omega) (by have:=HJL.out;omega))
     obtain ⟨Y,hY⟩:=qv (join (Zaw s) [10])
     rw [hY] at HJ HJL HF
     have s9:¬ 9223372036854775807<Y.length+1:=by have:=HJL.out;omega
     clear hY
     go_wp2_with (first|(go_at_call 45;(with_reducible refine (HJ.out _ rfl).mono ?_);rintro e wA ⟨rfl,hbA⟩)|fail)
     go_ret
     refine ⟨?_,Below.step hbA HB3.out HB3.out.size⟩
     rw [HF.out]
     show Ending.returned (Value.string (({ data:=Y.toArray }:ByteArray)++{ data:=[10].toArray }))=_
     rw [Zab]
def Zdm (s:EScene) (ok:Bool) (w:World) (e:Ending) (w':World):Prop :=
 ∃ (TX:Option Addr) (tc:Nat) (P:Option Addr) (pc:Nat) (Q:Option Addr) (qc b:Nat),e=.returned (.tuple #[.agg ⟨cS s TX tc P pc Q qc⟩,.bool ok])/\w.heap.size<=b/\b<=w'.heap.size/\SceneR w' b [] s TX tc P pc Q qc/\Below w.heap.size w w'
theorem Zdm.zero {w w':World} (hb:Below w.heap.size w w'):Zdm Zdp false w (.returned (.tuple #[.agg ⟨zS⟩,.bool false])) w':=⟨none,0,none,0,none,0,w.heap.size,rfl,Nat.le_refl _,hb.size,SceneR.nil _ _ _ _ rfl rfl rfl,hb⟩
theorem I_ParseScene_long (t:List UInt8) (w:World) (hl:t.length<=1048576) (he:Env w) (hn:11<(linesT t).length) :
  Calls Tryz.prog 6 #[str t] w (Zdm Zdp false w):=by
 have HSL:=qh (∀ wx,Calls Tryz.prog 25 #[str t] wx (Zc1 (linesT t) wx)) (λwx=>I_SplitLines t wx hl)
 generalize linesT t=ls at *
 have hgt:(11:Int)<(ls.length:Int):=qo
 clear he
 have hal:∀ wx:World,(Instr.alloc 30 true (.tuple #[])).run Tryz.prog wx=.ok (.pointer (some ⟨wx.heap.size,0,none⟩)) (wx.alloc (.cells ⟨zS⟩ 30)):=λwx=>by kernel_rfl
 go_enter Tryz.func6,Tryz.ntmps6
 go_wp2_with (first|(refine Zao rfl 30 rfl (hal _) ?_)|fail)
 refine (HSL.out _).mono ?_
 rintro e w1 ⟨A,c,rfl,hr,hge,hb1⟩
 have hz1:=hb1.size
 (try simp at hz1)
 have HX:=qh (Own w1 w.heap.size 30 zS) (Own.step hb1 (Own.new w _ _))
 have HB1:=bh w hb1
 obtain ⟨w2,hst,hs,hbk,hs2,e1,e2,e3⟩:=Zay (P:=Tryz.prog) (T:=30) (zs:=zS) (k:=0) HX.out Zce (by show 12<=12;omega) qr
 have HST:=hdQ hst
 have HB2:=qh (Below w.heap.size w w2) (Below.trans HB1.out ⟨e1,e2,e3,qo,λb h=>hbk b qo⟩)
 have HO:=qh (Own w2 w.heap.size 30 zS) hs
 have x0:w2.cell? ⟨w.heap.size,0,none⟩=some (.int .i64 0):=HO.out.cell 0
 have x1:w2.cell? ⟨w.heap.size,1,none⟩=some (.int .i64 0):=HO.out.cell 1
 have x2:w2.cell? ⟨w.heap.size,2,none⟩=some (.int .i64 0):=HO.out.cell 2
 have x3:w2.cell? ⟨w.heap.size,3,none⟩=some (.int .i64 0):=HO.out.cell 3
 have x4:w2.cell? ⟨w.heap.size,4,none⟩=some (.bool false):=HO.out.cell 4
 have x5:w2.cell? ⟨w.heap.size,5,none⟩=some (.int .i64 0):=HO.out.cell 5
 have x6:w2.cell? ⟨w.heap.size,6,none⟩=some (.int .i64 0):=HO.out.cell 6
 have x7:w2.cell? ⟨w.heap.size,7,none⟩=some (.int .i64 0):=HO.out.cell 7
 have x8:w2.cell? ⟨w.heap.size,8,none⟩=some (.slice none 0 0):=HO.out.cell 8
 have x9:w2.cell? ⟨w.heap.size,9,none⟩=some (.slice none 0 0):=HO.out.cell 9
 have x10:w2.cell? ⟨w.heap.size,10,none⟩=some (.slice none 0 0):=HO.out.cell 10
 have x11:w2.cell? ⟨w.heap.size,11,none⟩=some (.int .i64 0):=HO.out.cell 11
 have xf:=HO.out.frozen
 have xl:=HO.out.lt
 clear hr hge hb1 hst hs hbk e1 e2 e3
 go_wp2_with (first|(refine Zaf rfl 30 (.tmp 2) (.tmp 13) rfl rfl rfl HST.out ?_)|fail)
 exact bodyPost_ret (v:=.tuple #[.agg ⟨zS⟩,.bool false]) (by simp [results,Tryz.results6,go_sem, *];rfl) rfl (Zdm.zero HB2.out)
theorem I_ParseScene_short (t:List UInt8) (w:World) (hl:t.length<=1048576) (he:Env w) (hT:ErrT w) (hn:(linesT t).length<=11) :
  Calls Tryz.prog 6 #[str t] w (Zdm (if Za0 (pI t)&&decide (Zbj (pI t)=t) then pI t else Zdp) (Za0 (pI t)&&decide (Zbj (pI t)=t)) w):=by
 have HE:=hdQ he
 have HET:=hdQ hT
 have HSL:=qh (∀ wx,Calls Tryz.prog 25 #[str t] wx (Zc1 (linesT t) wx)) (λwx=>I_SplitLines t wx hl)
 rw [pI_to]
 have HLL:=qh (∀ l∈linesT t,l.length<=1048576) (λl h=>Nat.le_trans (linesT_len.1 l h) hl)
 generalize linesT t=ls at *
 have hng:¬ (11:Int)<(ls.length:Int):=qo
 have hTN:=hdQ (λk=>toI_N (ls:=ls) HLL.out k)
 have hTL:=hdQ (λk=>toI_len ls k)
 have H0:toI ls 0=Zdp:=rfl
 clear he hT
 generalize hBS:(Za0 (toI ls ls.length)&&decide (Zbj (toI ls ls.length)=t))=BS
 generalize hRS:(if BS=true then toI ls ls.length else Zdp)=RS_
 have HBS:=hdQ hBS
 have HRS:=hdQ hRS
 clear hBS hRS
 have hal:∀ wx:World,(Instr.alloc 30 true (.tuple #[])).run Tryz.prog wx=.ok (.pointer (some ⟨wx.heap.size,0,none⟩)) (wx.alloc (.cells ⟨zS⟩ 30)):=λwx=>by kernel_rfl
 go_enter Tryz.func6,Tryz.ntmps6
 go_wp2_with (first|(refine Zao rfl 30 rfl (hal _) ?_)|fail)
 refine (HSL.out _).mono ?_
 rintro e w1 ⟨A,c,rfl,hr,hge,hb1⟩
 have hz1:=hb1.size
 (try simp at hz1)
 have HO1:=qh (Own w1 w.heap.size 30 zS) (Own.step hb1 (Own.new w _ _))
 have HB1:=bh w hb1
 have HR1:=hdQ hr
 have HE1:=hdQ (HE.out.step HB1.out)
 have HET1:=hdQ (HET.out.step HB1.out)
 have HXn:=qh (Own (w1.alloc (.cells ⟨zS⟩ 30)) w1.heap.size 30 zS) (Own.new w1 _ _)
 obtain ⟨w2,hst,hs,hbk,hs2,e1,e2,e3⟩:=Zay (P:=Tryz.prog) (T:=30) (zs:=zS) (k:=0) HXn.out Zce (by show 12<=12;omega) qr
 have HST:=hdQ hst
 have HB2:=qh (Below w1.heap.size w1 w2) (Below.trans ((Below.refl w1.heap.size w1).alloc (Nat.le_refl _) _) ⟨e1,e2,e3,qo,λb h=>hbk b qo⟩)
 have HS2:=qh (Zc4 w2 w1.heap.size w1.heap.size (toI ls 0)) ⟨none,0,none,0,none,0,Nat.le_refl _,hs,SceneR.nil _ _ _ _ rfl rfl rfl⟩
 have hz2:w1.heap.size<w2.heap.size:=by rw [hs2];simp
 clear hr hge hb1 hst hs hbk hs2 e1 e2 e3 HXn H0
 go_wp2_with (first|(refine Zao rfl 30 rfl (hal _) ?_)|(refine Zaf rfl 30 (.tmp 5) (.tmp 14) rfl rfl rfl HST.out ?_)|fail)
 clear hal
 go_loopw [7,17] (λ_ i_ wr=>∃ k:Nat,k<=ls.length/\i_=.int .i64 k/\Zc4 wr w1.heap.size w1.heap.size (toI ls k)/\Below w1.heap.size w1 wr) (λ_ i_ _=>ls.length-(RowKit.intOf i_).toNat)
 case atStart=>exact ⟨0,Nat.zero_le _,rfl,HS2.out,HB2.out⟩
 case round =>
  obtain ⟨k,hk,rfl,hsm,hb⟩:=hrel
  have hz:=hb.size
  have HS:=hdQ hsm
  have HB:=hdQ hb
  have HR:=hdQ (HR1.out.step hb)
  clear hsm hb
  by_cases hlt:k<ls.length
  ·obtain ⟨b,o,rfl,hbl,hcell⟩:=HR.out.open_.2.2 qo
   have c0:wr.cell? ⟨b,o+k,none⟩=some (str ls[k]):=by rw [hcell k qo,Zfd hlt]
   have i0:(0:Int)<=k:=qo
   have i1:(k:Int)<ls.length:=qo
   have hcl:=HR.out.open_
   have hkl:=(hTL.out k hk)
   have HRL:=qh (Calls Tryz.prog 26 #[.pointer (some ⟨w1.heap.size,0,none⟩),str ls[k]] wr λe w'=>e=.returned (.tuple #[])/\Zc4 w' w1.heap.size w1.heap.size (updI (toI ls k) ls[k])/\Below w1.heap.size w1 w') (I_readLine ls[k] (HLL.out _ (List.getElem_mem hlt)) HE1.out HET1.out HB.out HS.out qo qo)
   rw [<- toI_succ hlt] at HRL
   clear hcell hcl hkl
   generalize ls[k]=u at *
   go_wp2_with fail
   refine HRL.out.mono ?_
   rintro e w3 ⟨rfl,hsm,hb3⟩
   have HS3:=hdQ hsm
   have HB3:=hdQ hb3
   clear hsm hb3
   go_wp2_with fail
   go_roundw
   case rel=>exact ⟨k+1,qo,qg,HS3.out,HB3.out⟩
   case measure=>exact qn
  ·obtain rfl:k=ls.length:=by omega
   have HN:=hdQ (hTN.out ls.length (Nat.le_refl _))
   have hng2:¬ (ls.length:Int)<(ls.length:Int):=qo
   clear hTN hTL HR1
   generalize toI ls ls.length=s at *
   obtain ⟨TX,tc,P,pc,Q,qc,hX,ho,hsr⟩:=HS.out
   have HO:=hdQ ho
   have HSR:=hdQ hsr
   have HSI:=qh (∀ wx,Below wr.heap.size wr wx->SceneIn wx s TX tc P pc Q qc) (λwx hbx=>by
    have h1:=hsr.step hbx
    have hB:=h1.ps.prB HN.out
    have hL:=h1.lift hB
    exact ⟨hL.tex,hL.ps.progs hB,hL.ss.surfs⟩)
   have HIV:=qh (∀ wx,Below wr.heap.size wr wx->CB_ Tryz.prog 27 #[vScene s TX tc P pc Q qc] wx (.bool (Za0 s))) (λwx hbx=>I_IsValidScene wx (HSI.out wx hbx))
   have HFS:=qh (∀ wx,Below wr.heap.size wr wx->CB_ Tryz.prog 11 #[vScene s TX tc P pc Q qc] wx (str (Zbj s))) (λwx hbx=>I_FormatScene wx (HSI.out wx hbx) ((HE1.out.step (Below.step hbx HB.out hz)).tab) ((HE1.out.step (Below.step hbx HB.out hz)).mlen))
   have HR0:=qh (Own wr w.heap.size 30 zS) (HO1.out.below HB.out qo)
   have x0:wr.cell? ⟨w1.heap.size,0,none⟩=some (.int .i64 s.a):=HO.out.cell 0
   have x1:wr.cell? ⟨w1.heap.size,1,none⟩=some (.int .i64 s.b):=HO.out.cell 1
   have x2:wr.cell? ⟨w1.heap.size,2,none⟩=some (.int .i64 s.c):=HO.out.cell 2
   have x3:wr.cell? ⟨w1.heap.size,3,none⟩=some (.int .i64 s.d):=HO.out.cell 3
   have x4:wr.cell? ⟨w1.heap.size,4,none⟩=some (.bool s.e):=HO.out.cell 4
   have x5:wr.cell? ⟨w1.heap.size,5,none⟩=some (.int .i64 s.f):=HO.out.cell 5
   have x6:wr.cell? ⟨w1.heap.size,6,none⟩=some (.int .i64 s.g):=HO.out.cell 6
   have x7:wr.cell? ⟨w1.heap.size,7,none⟩=some (.int .i64 s.log):=HO.out.cell 7
   have x8:wr.cell? ⟨w1.heap.size,8,none⟩=some (.slice TX s.tex.length tc):=HO.out.cell 8
   have x9:wr.cell? ⟨w1.heap.size,9,none⟩=some (.slice P s.ps.length pc):=HO.out.cell 9
   have x10:wr.cell? ⟨w1.heap.size,10,none⟩=some (.slice Q s.ss.length qc):=HO.out.cell 10
   have x11:wr.cell? ⟨w1.heap.size,11,none⟩=some (.int .i64 s.side):=HO.out.cell 11
   clear ho hsr HS
   cases hok:Za0 s with
   | false =>
    rw [hok] at HIV
    go_wp2_with fail
    refine (HIV.out _ (Below.refl _ _)).mono ?_
    rintro e w3 ⟨rfl,hb3⟩
    have hz3:=hb3.size
    have HQ0:=qh (Own w3 w.heap.size 30 zS) (Own.step hb3 HR0.out)
    obtain ⟨w4,hst,hs,hbk,hs4,e1,e2,e3⟩:=Zay (P:=Tryz.prog) (T:=30) (zs:=zS) (k:=0) HQ0.out Zce (by show 12<=12;omega) qr
    have HST4:=hdQ hst
    have HB4:=qh (Below w.heap.size w w4) (Below.trans (Below.trans HB1.out ((Below.step hb3 HB.out hz).mono qo)) ⟨e1,e2,e3,qo,λb h=>hbk b qo⟩)
    have HO4:=qh (Own w4 w.heap.size 30 zS) hs
    have y0:w4.cell? ⟨w.heap.size,0,none⟩=some (.int .i64 0):=HO4.out.cell 0
    have y1:w4.cell? ⟨w.heap.size,1,none⟩=some (.int .i64 0):=HO4.out.cell 1
    have y2:w4.cell? ⟨w.heap.size,2,none⟩=some (.int .i64 0):=HO4.out.cell 2
    have y3:w4.cell? ⟨w.heap.size,3,none⟩=some (.int .i64 0):=HO4.out.cell 3
    have y4:w4.cell? ⟨w.heap.size,4,none⟩=some (.bool false):=HO4.out.cell 4
    have y5:w4.cell? ⟨w.heap.size,5,none⟩=some (.int .i64 0):=HO4.out.cell 5
    have y6:w4.cell? ⟨w.heap.size,6,none⟩=some (.int .i64 0):=HO4.out.cell 6
    have y7:w4.cell? ⟨w.heap.size,7,none⟩=some (.int .i64 0):=HO4.out.cell 7
    have y8:w4.cell? ⟨w.heap.size,8,none⟩=some (.slice none 0 0):=HO4.out.cell 8
    have y9:w4.cell? ⟨w.heap.size,9,none⟩=some (.slice none 0 0):=HO4.out.cell 9
    have y10:w4.cell? ⟨w.heap.size,10,none⟩=some (.slice none 0 0):=HO4.out.cell 10
    have y11:w4.cell? ⟨w.heap.size,11,none⟩=some (.int .i64 0):=HO4.out.cell 11
    have yf:=HO4.out.frozen
    have yl:=HO4.out.lt
    clear hb3 hst hs hbk hs4 e1 e2 e3
    go_wp2_with (first|(refine Zaf rfl 30 (.tmp 2) (.tmp 33) rfl rfl rfl HST4.out ?_)|fail)
    obtain ⟨rfl,rfl⟩:BS=false/\RS_=Zdp:=by
     have h1:=HBS.out
     rw [hok,Bool.false_and] at h1
     subst h1
     exact ⟨rfl,by rw [<- HRS.out];rfl⟩
    exact bodyPost_ret (v:=.tuple #[.agg ⟨zS⟩,.bool false]) (by simp [results,Tryz.results6,go_sem, *];rfl) rfl (Zdm.zero HB4.out)
   | true =>
    rw [hok] at HIV
    go_wp2_with fail
    refine (HIV.out _ (Below.refl _ _)).mono ?_
    rintro e w3 ⟨rfl,hb3⟩
    have hz3:=hb3.size
    have HB3:=hdQ hb3
    have HO3:=qh (Own w3 w1.heap.size 30 (cS s TX tc P pc Q qc)) (Own.step hb3 HO.out)
    have y0:w3.cell? ⟨w1.heap.size,0,none⟩=some (.int .i64 s.a):=HO3.out.cell 0
    have y1:w3.cell? ⟨w1.heap.size,1,none⟩=some (.int .i64 s.b):=HO3.out.cell 1
    have y2:w3.cell? ⟨w1.heap.size,2,none⟩=some (.int .i64 s.c):=HO3.out.cell 2
    have y3:w3.cell? ⟨w1.heap.size,3,none⟩=some (.int .i64 s.d):=HO3.out.cell 3
    have y4:w3.cell? ⟨w1.heap.size,4,none⟩=some (.bool s.e):=HO3.out.cell 4
    have y5:w3.cell? ⟨w1.heap.size,5,none⟩=some (.int .i64 s.f):=HO3.out.cell 5
    have y6:w3.cell? ⟨w1.heap.size,6,none⟩=some (.int .i64 s.g):=HO3.out.cell 6
    have y7:w3.cell? ⟨w1.heap.size,7,none⟩=some (.int .i64 s.log):=HO3.out.cell 7
    have y8:w3.cell? ⟨w1.heap.size,8,none⟩=some (.slice TX s.tex.length tc):=HO3.out.cell 8
    have y9:w3.cell? ⟨w1.heap.size,9,none⟩=some (.slice P s.ps.length pc):=HO3.out.cell 9
    have y10:w3.cell? ⟨w1.heap.size,10,none⟩=some (.slice Q s.ss.length qc):=HO3.out.cell 10
    have y11:w3.cell? ⟨w1.heap.size,11,none⟩=some (.int .i64 s.side):=HO3.out.cell 11
    clear hb3
    go_wp2_with fail
    refine (HFS.out _ HB3.out).mono ?_
    rintro e w4 ⟨rfl,hb4⟩
    have hz4:=hb4.size
    have HO4:=qh (Own w4 w1.heap.size 30 (cS s TX tc P pc Q qc)) (Own.step hb4 HO3.out)
    have HQ4:=qh (Own w4 w.heap.size 30 zS) (Own.step hb4 (Own.step HB3.out HR0.out))
    have HB4:=qh (Below w1.heap.size w1 w4) (Below.step hb4 (Below.step HB3.out HB.out hz) qo)
    have HS4:=qh (SceneR w4 w1.heap.size [w1.heap.size] s TX tc P pc Q qc) ((HSR.out.step HB3.out).step hb4)
    clear hb4
    by_cases heq:Zbj s=t
    ·have hne:(Zbj s != t)=false:=by simpa using heq
     obtain ⟨w5,hst,hs,hbk,hs5,e1,e2,e3⟩:=Zay (P:=Tryz.prog) (T:=30) (zs:=cS s TX tc P pc Q qc) (k:=0) HQ4.out Zce (by show 12<=12;omega) qr
     have HST5:=hdQ hst
     have HLD:=qh ((Instr.loadAt 30 (.pointer (some ⟨w1.heap.size,0,none⟩))).run Tryz.prog w4=.ok (.agg ⟨cS s TX tc P pc Q qc⟩) w4) (Zal (P:=Tryz.prog) Tryz.underlying30 rfl Zce (λj v hv=>by rw [Nat.zero_add,HO4.out.cell];exact hv))
     have HB5:=qh (Below w.heap.size w w5) (Below.trans (Below.trans HB1.out (HB4.out.mono qo)) ⟨e1,e2,e3,qo,λb h=>hbk b qo⟩)
     have HO5:=qh (Own w5 w.heap.size 30 (cS s TX tc P pc Q qc)) hs
     have HS5:=qh (SceneR w5 w1.heap.size [] s TX tc P pc Q qc) (HS4.out.fewer.keep qo (λx hx _ _=>hbk x qo))
     have hz5:w1.heap.size<=w5.heap.size:=qo
     have z0:w5.cell? ⟨w.heap.size,0,none⟩=some (.int .i64 s.a):=HO5.out.cell 0
     have z1:w5.cell? ⟨w.heap.size,1,none⟩=some (.int .i64 s.b):=HO5.out.cell 1
     have z2:w5.cell? ⟨w.heap.size,2,none⟩=some (.int .i64 s.c):=HO5.out.cell 2
     have z3:w5.cell? ⟨w.heap.size,3,none⟩=some (.int .i64 s.d):=HO5.out.cell 3
     have z4:w5.cell? ⟨w.heap.size,4,none⟩=some (.bool s.e):=HO5.out.cell 4
     have z5:w5.cell? ⟨w.heap.size,5,none⟩=some (.int .i64 s.f):=HO5.out.cell 5
     have z6:w5.cell? ⟨w.heap.size,6,none⟩=some (.int .i64 s.g):=HO5.out.cell 6
     have z7:w5.cell? ⟨w.heap.size,7,none⟩=some (.int .i64 s.log):=HO5.out.cell 7
     have z8:w5.cell? ⟨w.heap.size,8,none⟩=some (.slice TX s.tex.length tc):=HO5.out.cell 8
     have z9:w5.cell? ⟨w.heap.size,9,none⟩=some (.slice P s.ps.length pc):=HO5.out.cell 9
     have z10:w5.cell? ⟨w.heap.size,10,none⟩=some (.slice Q s.ss.length qc):=HO5.out.cell 10
     have z11:w5.cell? ⟨w.heap.size,11,none⟩=some (.int .i64 s.side):=HO5.out.cell 11
     have zf:=HO5.out.frozen
     have zl:=HO5.out.lt
     clear hst hs hbk hs5 e1 e2 e3
     go_wp2_with (first|(refine Zaj rfl 30 (.tmp 5) rfl rfl HLD.out ?_)|(refine Zaf rfl 30 (.tmp 2) (.tmp 34) rfl rfl rfl HST5.out ?_)|fail)
     obtain ⟨rfl,rfl⟩:BS=true/\s=RS_:=by
      have h1:=HBS.out
      rw [hok,show (true&&decide (Zbj s=t))=true by simp [heq]] at h1
      subst h1
      exact ⟨rfl,HRS.out⟩
     exact bodyPost_ret (v:=.tuple #[.agg ⟨cS s TX tc P pc Q qc⟩,.bool true]) (by simp [results,Tryz.results6,go_sem, *];rfl) rfl ⟨TX,tc,P,pc,Q,qc,w1.heap.size,rfl,qo,hz5,HS5.out,HB5.out⟩
    ·have hne:(Zbj s==t)=false:=by simpa using heq
     obtain ⟨w5,hst,hs,hbk,hs5,e1,e2,e3⟩:=Zay (P:=Tryz.prog) (T:=30) (zs:=zS) (k:=0) HQ4.out Zce (by show 12<=12;omega) qr
     have HST5:=hdQ hst
     have HB5:=qh (Below w.heap.size w w5) (Below.trans (Below.trans HB1.out (HB4.out.mono qo)) ⟨e1,e2,e3,qo,λb h=>hbk b qo⟩)
     have HO5:=qh (Own w5 w.heap.size 30 zS) hs
     have z0:w5.cell? ⟨w.heap.size,0,none⟩=some (.int .i64 0):=HO5.out.cell 0
     have z1:w5.cell? ⟨w.heap.size,1,none⟩=some (.int .i64 0):=HO5.out.cell 1
     have z2:w5.cell? ⟨w.heap.size,2,none⟩=some (.int .i64 0):=HO5.out.cell 2
     have z3:w5.cell? ⟨w.heap.size,3,none⟩=some (.int .i64 0):=HO5.out.cell 3
     have z4:w5.cell? ⟨w.heap.size,4,none⟩=some (.bool false):=HO5.out.cell 4
     have z5:w5.cell? ⟨w.heap.size,5,none⟩=some (.int .i64 0):=HO5.out.cell 5
     have z6:w5.cell? ⟨w.heap.size,6,none⟩=some (.int .i64 0):=HO5.out.cell 6
     have z7:w5.cell? ⟨w.heap.size,7,none⟩=some (.int .i64 0):=HO5.out.cell 7
     have z8:w5.cell? ⟨w.heap.size,8,none⟩=some (.slice none 0 0):=HO5.out.cell 8
     have z9:w5.cell? ⟨w.heap.size,9,none⟩=some (.slice none 0 0):=HO5.out.cell 9
     have z10:w5.cell? ⟨w.heap.size,10,none⟩=some (.slice none 0 0):=HO5.out.cell 10
     have z11:w5.cell? ⟨w.heap.size,11,none⟩=some (.int .i64 0):=HO5.out.cell 11
     have zf:=HO5.out.frozen
     have zl:=HO5.out.lt
     clear hst hs hbk hs5 e1 e2 e3
     go_wp2_with (first|(refine Zaf rfl 30 (.tmp 2) (.tmp 33) rfl rfl rfl HST5.out ?_)|fail)
     obtain ⟨rfl,rfl⟩:BS=false/\RS_=Zdp:=by
      have h1:=HBS.out
      rw [hok,show (true&&decide (Zbj s=t))=false by simp [heq]] at h1
      subst h1
      exact ⟨rfl,by rw [<- HRS.out];rfl⟩
     exact bodyPost_ret (v:=.tuple #[.agg ⟨zS⟩,.bool false]) (by simp [results,Tryz.results6,go_sem, *];rfl) rfl (Zdm.zero HB5.out)
theorem I_ParseScene (t:List UInt8) (w:World) (hl:t.length<=1048576) (he:Env w) (hT:ErrT w) :
  Calls Tryz.prog 6 #[str t] w (Zdm (if accI t then pI t else Zdp) (accI t) w):=by
 unfold accI
 by_cases h:(linesT t).length<=11
 ·rw [show decide ((linesT t).length<=11)=true by simp [h],Bool.true_and]
  exact I_ParseScene_short t w hl he hT h
 ·rw [show decide ((linesT t).length<=11)=false by simp [h],Bool.false_and,if_neg qs]
  exact I_ParseScene_long t w hl he qo
end Go.Proofs.YticdknjoapdmeaaGreatDoor
