/- Several texts in one: LexJ, LexK, AsM, TokI, PriP, ReadL, SplL, Idn, NodeV, UsesS, OwnW. -/
import Derived.Test.YticdknjoapdmeaaGreatDoorMh
import Derived.Laws.EntriesVeiled
import Derived.LaidEql
import Derived.Stop.Asserts
import Derived.RowKitTokens
import Derived.Recover
import Derived.Test.YticdknjoapdmeaaGreatDoorMf
import Derived.Test.YticdknjoapdmeaaGreatDoorMd
import Derived.Test.YticdknjoapdmeaaGreatDoorMa
import Derived.Laws.RangeAny
import Derived.LoopTactic
import Derived.Test.YticdknjoapdmeaaGreatDoorMc
import Derived.BigQuiet
import Derived.Deep.QuietTactic
import Derived.Deep.RegionHeld3
set_option linter.unusedVariables false
set_option linter.unusedSimpArgs false
namespace Go.Proofs.YticdknjoapdmeaaGreatDoor
set_option maxHeartbeats 16000000
set_option maxRecDepth 100000
open Go.RowKit Go.Lib
def KG (f:UInt8->Bool) (l:List UInt8) (k:Nat):Prop:=∀ j,j<k->∃ b,l[j]? = some b/\f b=true
theorem KG.succ {f:UInt8->Bool} {l:List UInt8} {k:Nat} {b:UInt8} (h:KG f l k) (hb:l[k]? = some b) (hd:f b=true):KG f l (k+1):=by
 intro j hj
 by_cases e:j=k
 ·subst e;exact ⟨b,hb,hd⟩
 ·exact h j qo
def inK (ks:List Int) (b:UInt8):Bool:=ks.contains (Zct b)
theorem inK_take {ks:List Int} {j:Nat} (hj:j<ks.length) (x:Int):(ks.take (j+1)).contains x=((ks.take j).contains x||x==ks[j]):=by
 rw [List.take_succ_eq_append_getElem hj,List.contains_append]
 congr 1
 rw [Bool.eq_iff_iff];simp
theorem inK_dg (b:UInt8):inK [2] b=isDg b:=by
 unfold inK Zct
 cases h1:isSp b with
 | true =>
  have:=(isSp_nat b).1 h1
  have h2:isDg b=false:=Zf7 qo
  rw [h2];rfl
 | false =>
  cases h2:isDg b<;>simp [h2]
  cases h3:isLt b<;>simp [h3]
  cases h4:isSy b<;>simp [h4]
theorem inK_nm (b:UInt8):inK [3,2] b=isNm b:=by
 unfold inK Zct isNm
 cases h1:isSp b with
 | true =>
  have:=(isSp_nat b).1 h1
  have h2:isDg b=false:=Zf7 qo
  have h3:isLt b=false:=isLt_not qo
  rw [h2,h3];rfl
 | false =>
  cases h2:isDg b<;>cases h3:isLt b<;>simp [h2,h3]
  cases h4:isSy b<;>simp [h4]
theorem spanN_congr {f g:UInt8->Bool} (h:∀ b,f b=g b) (l:List UInt8):Zba f l=Zba g l:=by
 have:f=g:=funext h
 rw [this]
theorem kindK_sp {b:UInt8} (h:isSp b=true):Zct b=1:=by unfold Zct;rw [h];rfl
theorem kindK_ne {b:UInt8} (h:isSp b=false):Zct b≠1:=by
 unfold Zct;rw [h]
 cases isDg b<;>cases isLt b<;>cases isSy b<;>decide
theorem I_spanOf {src:List UInt8} {a:Nat} {ks:List Int} {A:Option Addr} {c:Nat} (w:World) (ha:a<=src.length) (hs:src.length<=1048576) (hr:RS w 1 A ks.length c (ints ks)) (hk2:ks.length<=2) :
  Calls Tryz.prog 270 #[str src,.int .i64 a,.slice A ks.length c] w λe w'=>e=.returned (.int .i64 (Zba (inK ks) (src.drop a):Int))/\w=w':=by
 obtain ⟨hn,hc,hcell⟩:=hr.open_
 have HC:=hdQ hcell
 unfold maxLen at hc
 have HKO:=qh (∀ (b:UInt8) (wx:World),Calls Tryz.prog 239 #[.int .u8 b.toNat] wx λe w'=>e=.returned (.int .i64 (Zct b))/\wx=w') I_kindOf
 have HDR:=qh (∀ k,(src.drop a)[k]? = src[a+k]?) (λk=>List.getElem?_drop)
 clear hr hcell
 go_enter Tryz.func270,Tryz.ntmps270
 go_wp2_with fail
 go_loop [7,8,10,17,18,19] (λp _ _ _ _ _=>∃ k:Nat,a+k<=src.length/\p=.int .i64 k/\KG (inK ks) (src.drop a) k) (λp _ _ _ _ _=>src.length-(RowKit.intOf p).toNat)
 case atStart=>exact ⟨0,qo,rfl,λj hj=>absurd hj qo⟩
 case round =>
  obtain ⟨k,hak,rfl,hkg⟩:=hrel
  have HKG:=hdQ hkg
  clear hkg
  rcases Nat.lt_or_ge (a+k) src.length with hlt|hge
  ·obtain ⟨b,hb⟩:∃ b,src[a+k]? = some b:=⟨_,List.getElem?_eq_getElem hlt⟩
   have hat:=lx_at hb
   have HB:=hdQ ((HDR.out k).trans hb)
   have hlt':(a:Int)+k<src.length:=qo
   have hwa:IntKind.i64.wrap ((a:Int)+k)=((a+k:Nat):Int):=by rw [show (a:Int)+k=((a+k:Nat):Int) by omega];exact IntWalk.i64_in _ qo
   have hwb:(a:Int)+k=((a+k:Nat):Int):=qo
   have HK1:=hdQ (HKO.out b)
   have HKB:=qh (inK ks b=ks.contains (Zct b)) rfl
   obtain ⟨q,hq⟩:=qv (Zct b)
   rw [hq] at HK1 HKB
   clear hb hq
   obtain ⟨ak,hak2⟩:=qv (a+k)
   rw [hak2] at hat hwa hwb hlt
   go_wp2_with fail
   go_loop [8,10,19] (λp _ i=>∃ j:Nat,j<=ks.length/\i=.int .i64 j/\p=.bool ((ks.take j).contains q)) (λ_ _ i=>ks.length-(RowKit.intOf i).toNat)
   case atStart=>exact ⟨0,Nat.zero_le _,rfl,rfl⟩
   case round =>
    obtain ⟨j,hj,rfl,rfl⟩:=hrel
    by_cases hlj:j<ks.length
    ·obtain ⟨bb,o,rfl,hbh,hcc⟩:=HC.out qo
     have d0:w.cell? ⟨bb,o+j,none⟩=some (.int .i64 ks[j]):=by rw [hcc j qo,List.getElem?_map,List.getElem?_eq_getElem hlj];rfl
     have HT:=hdQ (inK_take hlj q)
     have hlj':(j:Int)<ks.length:=qo
     obtain ⟨x,hx⟩:=qv (ks[j])
     rw [hx] at d0 HT
     clear hcc hx
     cases hcj:(ks.take j).contains q with
     | true =>
      rw [hcj] at HT
      clear hcj
      go_wp2_with fail
      go_round
      case rel=>exact ⟨j+1,qo,qg,by rw [HT.out];rfl⟩
      case measure=>exact qn
     | false =>
      rw [hcj] at HT
      clear hcj
      go_wp2_with (first|(go_at_call 239;refine (HK1.out _).mono ?_;rintro e w' ⟨rfl,rfl⟩)|fail)
      go_round
      case rel=>exact ⟨j+1,qo,qg,by rw [HT.out];rfl⟩
      case measure=>exact qn
    ·obtain rfl:j=ks.length:=by omega
     rw [List.take_length]
     cases hck:ks.contains q with
     | true =>
      have HN:=hdQ (HKG.out.succ HB.out (by rw [HKB.out,hck]))
      clear hck
      go_wp2_with fail
      go_round
      case rel=>exact ⟨k+1,qo,qg,HN.out⟩
      case measure=>exact qn
     | false =>
      have HSP:=qh (Zba (inK ks) (src.drop a)=k) (Zfx HKG.out (λb' hb'=>by rw [HB.out] at hb';injection hb' with hb';subst hb';rw [HKB.out,hck]))
      clear hck
      go_wp2_with fail
      go_ret
      rw [HSP.out]
      exact ⟨rfl,rfl⟩
  ·have hge':¬ (a:Int)+k<src.length:=by omega
   have hwa:IntKind.i64.wrap ((a:Int)+k)=(a:Int)+k:=IntWalk.i64_in _ qo
   have HSP:=qh (Zba (inK ks) (src.drop a)=k) (Zfx HKG.out (λb' hb'=>by rw [HDR.out,List.getElem?_eq_none qo] at hb';cases hb'))
   go_wp2_with fail
   go_ret
   rw [HSP.out]
   exact ⟨rfl,rfl⟩
def NumI (src:List UInt8) (a:Nat) (r:Option Zaq) (w:World) (e:Ending) (w':World):Prop :=
 (match r with
 | none=>∃ g,e=.returned (.tuple #[tokV (0,[],0,0),.iface 210 (.pointer (some ⟨g,0,none⟩))])/\w.heap.size<=g/\Own w' g 213 [.int .i64 a]
 | some x=>e=.returned (.tuple #[tokV x,.nilIface]))/\Below w.heap.size w w'
theorem I_span1 {src:List UInt8} {a g:Nat} (w:World) (ha:a<=src.length) (hs:src.length<=1048576) (hg:g=w.heap.size) :
  Calls Tryz.prog 270 #[str src,.int .i64 a,.slice (some ⟨g,0,none⟩) 1 1] (w.alloc (.cells #[.int .i64 2] 3)) λe w'=>e=.returned (.int .i64 (Zba isDg (src.drop a):Int))/\w.alloc (.cells #[.int .i64 2] 3)=w':=by
 subst hg
 have h:=I_spanOf (ks:=[2]) (w.alloc (.cells #[.int .i64 2] 3)) ha hs (Own.rs (t:=3) (n:=1) (size:=1) (Own.new w 3 #[.int .i64 2]) rfl qo) qs
 rw [spanN_congr inK_dg] at h
 exact h
theorem I_span2 {src:List UInt8} {a g:Nat} (w:World) (ha:a<=src.length) (hs:src.length<=1048576) (hg:g=w.heap.size) :
  Calls Tryz.prog 270 #[str src,.int .i64 a,.slice (some ⟨g,0,none⟩) 2 2] (w.alloc (.cells #[.int .i64 3,.int .i64 2] 3)) λe w'=>e=.returned (.int .i64 (Zba isNm (src.drop a):Int))/\w.alloc (.cells #[.int .i64 3,.int .i64 2] 3)=w':=by
 subst hg
 have h:=I_spanOf (ks:=[3,2]) (w.alloc (.cells #[.int .i64 3,.int .i64 2] 3)) ha hs (Own.rs (t:=3) (n:=2) (size:=1) (Own.new w 3 #[.int .i64 3,.int .i64 2]) rfl qo) qs
 rw [spanN_congr inK_nm] at h
 exact h
def numX (src:List UInt8) (a:Nat):Option Zaq:=(numTok (src.drop a)).map λx=>(1,(src.drop a).take x.1,(x.2:Int),(a:Int))
theorem DG.of_span (l:List UInt8) (d:Nat) (h:d<=Zba isDg l):DG (l.take d) d:=λj hj=>by
 obtain ⟨b,hb,hd⟩:=spanN_in (f:=isDg) (l:=l) (j:=j) qo
 exact ⟨b,by rw [List.getElem?_take_of_lt hj];exact hb,hd⟩
theorem I_numberAt {src:List UInt8} {a:Nat} (w:World) (ha:a<=src.length) (hs:src.length<=1048576) :
  Calls Tryz.prog 269 #[str src,.int .i64 a] w (NumI src a (numX src a) w):=by
 have HNX:=qh (numX src a=(numTok (src.drop a)).map λx=>(1,(src.drop a).take x.1,(x.2:Int),(a:Int))) rfl
 obtain ⟨r,hr⟩:=qv (numX src a)
 rw [hr] at HNX ⊢
 clear hr
 obtain ⟨d,hd⟩:=qv (Zba isDg (src.drop a))
 have hdl:=Zey isDg (src.drop a)
 rw [hd,List.length_drop] at hdl
 have HD:=hdQ hd
 have HS1:=qh (∀ X:Obj,Calls Tryz.prog 270 #[str src,.int .i64 a,.slice (some ⟨w.heap.size+1,0,none⟩) 1 1] ((w.alloc X).alloc (.cells #[.int .i64 2] 3)) λe w'=>e=.returned (.int .i64 (d:Int))/\(w.alloc X).alloc (.cells #[.int .i64 2] 3)=w') (λX=>by have:=I_span1 (w.alloc X) ha hs (g:=w.heap.size+1) qs;rw [hd] at this;exact this)
 have had:IntKind.i64.wrap ((a:Int)+d)=(a:Int)+d:=IntWalk.i64_in _ qo
 by_cases h4:4<d
 ·have h4':(4:Int)<d:=by omega
  have hrr:r=none:=by rw [HNX.out,numTok_big (by rw [hd];exact h4)];rfl
  subst hrr
  clear hd h4
  go_enter Tryz.func269,Tryz.ntmps269
  go_wp2_with fail
  (with_reducible refine (HS1.out _).mono ?_)
  rintro e w' ⟨rfl,rfl⟩
  go_wp2_with fail
  refine bodyPost_ret (v:=.tuple #[tokV (0,[],0,0),.iface 210 (.pointer (some ⟨w.heap.size+1+1,0,none⟩))]) (by simp [results,Tryz.results269,go_sem]) rfl ⟨⟨_,rfl,qo, ?_⟩,bll⟩
  (with_reducible refine Own.at_new ?_);simp
 ·have h4':¬ (4:Int)<d:=by omega
  obtain ⟨l1,hl1⟩:=qv ((src.drop a).take d)
  have hl1l:l1.length=d:=by rw [<- hl1,List.length_take,List.length_drop];omega
  have hdg1:DG l1 l1.length:=by rw [hl1l,<- hl1];exact DG.of_span _ _ (by rw [hd];exact Nat.le_refl _)
  have hv1:valD l1<10000:=by
   have:=hdg1.val
   rw [List.take_length] at this
   exact Nat.lt_of_lt_of_le this (Nat.le_trans (Nat.pow_le_pow_right qo (show l1.length<=4 by omega)) (Nat.le_refl _))
  have HV1:=qh (∀ wx,CB_ Tryz.prog 288 #[str l1] wx (.int .i64 (valD l1))) (λwx=>I_valueOf l1 hdg1 qo wx)
  have hex:({ data:=src.toArray }:ByteArray).extract a (a+d)=⟨l1.toArray⟩:=by rw [Zf5,hl1]
  have HL1:=hdQ hl1
  obtain ⟨V,hV⟩:=qv (valD l1)
  have HV:=hdQ hV
  rw [hV] at hv1 HV1
  obtain ⟨E,hE⟩:=qv (a+d)
  have HE:=hdQ hE
  have hEi:(a:Int)+d=E:=qo
  have hEl:E<=src.length:=qo
  have haE:a<=E:=qo
  rw [hE] at hex
  rw [hEi] at had
  have i1:(a:Int)<=E:=qo
  have i2:(E:Int)<=src.length:=qo
  have hVw:IntKind.i64.wrap ((V:Int)*256)=(V:Int)*256:=IntWalk.i64_in _ qo
  have hNo:=qh (src[E]? ≠ some 46->r=some (1,l1,((V*256:Nat):Int),(a:Int))) (λh=>by
   rw [HNX.out,numTok_int hd h4 (by rw [List.getElem?_drop,HE.out];exact h)]
   simp only [Option.map_some]
   rw [HL1.out,HV.out])
  have H4:=hdQ h4
  clear hV hl1 hdg1 hl1l hE hd h4
  rcases Nat.lt_or_ge E src.length with hlt|hge
  ·obtain ⟨b,hb⟩:∃ b,src[E]? = some b:=⟨_,List.getElem?_eq_getElem hlt⟩
   have hat:=lx_at hb
   have HBt:=hdQ hb
   have hlt':(E:Int)<src.length:=qo
   clear hb
   by_cases h46:b=46
   ·subst h46
    have hE1:E+1<=src.length:=hlt
    have H46:=qh ((src.drop a)[d]? = some 46) (by rw [List.getElem?_drop,HE.out];exact HBt.out)
    have HDR:=qh ((src.drop a).drop (d+1)=src.drop (E+1)) (by rw [List.drop_drop];congr 1;have:=HE.out;omega)
    obtain ⟨q,hq⟩:=qv (Zba isDg (src.drop (E+1)))
    have hql:=Zey isDg (src.drop (E+1))
    rw [hq,List.length_drop] at hql
    have HQ1:=hdQ hq
    have HQ2:=qh (Zba isDg ((src.drop a).drop (d+1))=q) (by rw [HDR.out];exact hq)
    have HS2:=qh (∀ wx:World,Calls Tryz.prog 270 #[str src,.int .i64 ((E:Int)+1),.slice (some ⟨wx.heap.size,0,none⟩) 1 1] (wx.alloc (.cells #[.int .i64 2] 3)) λe w'=>e=.returned (.int .i64 (q:Int))/\wx.alloc (.cells #[.int .i64 2] 3)=w') (λwx=>by have:=I_span1 (a:=E+1) wx hE1 hs rfl;rw [hq] at this;simpa using this)
    clear hq
    rcases (show q<1∨4<q∨(1<=q/\q<=4) by omega) with hq1|hq1|⟨hq1,hq4⟩
    ·have hq1':(q:Int)<1:=by omega
     have hrr:r=none:=by rw [HNX.out,Zdu HD.out H46.out HQ2.out (.inl hq1)];rfl
     subst hrr
     go_enter Tryz.func269,Tryz.ntmps269
     go_wp2_with fail
     (with_reducible refine (HS1.out _).mono ?_)
     rintro e w' ⟨rfl,rfl⟩
     go_wp2_with fail
     refine (HV1.out _).mono ?_
     rintro e w1 ⟨rfl,hb1⟩
     have hz1:=hb1.size
     (try simp at hz1)
     have HB1:=bh w hb1
     have HX1:=qh (Own w1 w.heap.size 101 [.int .i64 0,.string ⟨#[]⟩,.int .i64 0,.int .i64 0]) (Own.step hb1 (Own.alloc (Own.new w 101 #[_,_,_,_]) _))
     have b0:=HX1.out.cell 0
     have b1:=HX1.out.cell 1
     have b2:=HX1.out.cell 2
     have b3:=HX1.out.cell 3
     have bf:=HX1.out.frozen
     have bz:=HX1.out.lt
     (try dsimp only [List.getElem?_cons_succ,List.getElem?_cons_zero] at b0 b1 b2 b3)
     clear hb1
     go_wp2_with fail
     refine (HS2.out _).mono ?_
     rintro e w' ⟨rfl,rfl⟩
     go_wp2_with fail
     refine bodyPost_ret (v:=.tuple #[tokV (0,[],0,0),.iface 210 (.pointer (some ⟨w1.heap.size+1,0,none⟩))]) (by simp [results,Tryz.results269,go_sem, *]) rfl ⟨⟨_,rfl,qo, ?_⟩,bll⟩
     (with_reducible refine Own.at_new ?_);simp
    ·have hq1':¬ (q:Int)<1:=by omega
     have hq2':(4:Int)<q:=qo
     have hrr:r=none:=by rw [HNX.out,Zdu HD.out H46.out HQ2.out (.inr hq1)];rfl
     subst hrr
     go_enter Tryz.func269,Tryz.ntmps269
     go_wp2_with fail
     (with_reducible refine (HS1.out _).mono ?_)
     rintro e w' ⟨rfl,rfl⟩
     go_wp2_with fail
     refine (HV1.out _).mono ?_
     rintro e w1 ⟨rfl,hb1⟩
     have hz1:=hb1.size
     (try simp at hz1)
     have HB1:=bh w hb1
     have HX1:=qh (Own w1 w.heap.size 101 [.int .i64 0,.string ⟨#[]⟩,.int .i64 0,.int .i64 0]) (Own.step hb1 (Own.alloc (Own.new w 101 #[_,_,_,_]) _))
     have b0:=HX1.out.cell 0
     have b1:=HX1.out.cell 1
     have b2:=HX1.out.cell 2
     have b3:=HX1.out.cell 3
     have bf:=HX1.out.frozen
     have bz:=HX1.out.lt
     (try dsimp only [List.getElem?_cons_succ,List.getElem?_cons_zero] at b0 b1 b2 b3)
     clear hb1
     go_wp2_with fail
     refine (HS2.out _).mono ?_
     rintro e w' ⟨rfl,rfl⟩
     go_wp2_with fail
     refine bodyPost_ret (v:=.tuple #[tokV (0,[],0,0),.iface 210 (.pointer (some ⟨w1.heap.size+1,0,none⟩))]) (by simp [results,Tryz.results269,go_sem, *]) rfl ⟨⟨_,rfl,qo, ?_⟩,bll⟩
     (with_reducible refine Own.at_new ?_);simp
    ·have hq1':¬ (q:Int)<1:=by omega
     have hq2':¬ (4:Int)<q:=qo
     obtain ⟨l2,hl2⟩:=qv ((src.drop (E+1)).take q)
     have hl2l:l2.length=q:=by rw [<- hl2,List.length_take,List.length_drop];omega
     have hdg2:DG l2 l2.length:=by rw [hl2l,<- hl2];exact DG.of_span _ _ (by rw [HQ1.out];exact Nat.le_refl _)
     have hv2:valD l2<10000:=by
      have:=hdg2.val
      rw [List.take_length] at this
      exact Nat.lt_of_lt_of_le this (Nat.le_trans (Nat.pow_le_pow_right qo (show l2.length<=4 by omega)) (Nat.le_refl _))
     have HV2:=qh (∀ wx,CB_ Tryz.prog 288 #[str l2] wx (.int .i64 (valD l2))) (λwx=>I_valueOf l2 hdg2 qo wx)
     have HPW:=qh (∀ wx,Calls Tryz.prog 215 #[.int .i64 q] wx λe w'=>e=.returned (.int .i64 ((10 ^ q:Nat):Int))/\wx=w') (λwx=>I_power q qo wx)
     obtain ⟨U,hU⟩:=qv (10 ^ q)
     have hU0:0<U:=by rw [<- hU];exact Nat.pow_pos qo
     have hU1:U<=10000:=by rw [<- hU];exact Nat.pow_le_pow_right qo hq4
     have HU:=hdQ hU
     rw [hU] at HPW
     obtain ⟨F,hF⟩:=qv (valD l2)
     have HF:=hdQ hF
     rw [hF] at hv2 HV2
     have HL2:=hdQ hl2
     have hex2:({ data:=src.toArray }:ByteArray).extract (E+1) (E+1+q)=⟨l2.toArray⟩:=by rw [Zf5,hl2]
     obtain ⟨G,hG⟩:=qv (E+1+q)
     have HGE:=hdQ hG
     rw [hG] at hex2
     have hGl:G<=src.length:=qo
     have hg1:IntKind.i64.wrap ((E:Int)+1+q)=G:=by rw [show (E:Int)+1+q=((G:Nat):Int) by omega];exact IntWalk.i64_in _ qo
     have hg2:(E:Int)+1+q=G:=qo
     have hg3:(E:Int)+(1+q)=G:=qo
     have hg4:IntKind.i64.wrap ((1:Int)+q)=1+q:=IntWalk.i64_in _ qo
     have hg5:IntKind.i64.wrap ((E:Int)+(1+q))=G:=by rw [show (E:Int)+(1+q)=((G:Nat):Int) by omega];exact IntWalk.i64_in _ qo
     have i3:(E:Int)+1<=G:=qo
     have i4:(G:Int)<=src.length:=qo
     have i5:(a:Int)<=G:=qo
     have hFw:IntKind.i64.wrap ((F:Int)*256)=(F:Int)*256:=IntWalk.i64_in _ qo
     have hU2:¬ U=0:=qo
     obtain ⟨Q,hQn⟩:=qv (F*256 / U)
     have hQl:Q<=F*256:=by rw [<- hQn];exact Nat.div_le_self _ _
     have HQN:=hdQ hQn
     have hQ:(F:Int)*256 / U=(Q:Int):=by rw [<- hQn];simp
     have hdv:Int.tdiv ((F:Int)*256) U=(Q:Int):=by rw [show ((F:Int)*256)=((F*256:Nat):Int) by omega,<- hQn];rfl
     have hqw:IntKind.i64.wrap (Q:Int)=Q:=IntWalk.i64_in _ qo
     have hww:IntKind.i64.wrap ((V:Int)*256+Q)=(V:Int)*256+Q:=IntWalk.i64_in _ qo
     have HEX3:=qh (({ data:=src.toArray }:ByteArray).extract a G=⟨((src.drop a).take (d+1+q)).toArray⟩) (by rw [<- Zf5];congr 1;have:=HE.out;omega)
     obtain ⟨l3,hl3⟩:=qv ((src.drop a).take (d+1+q))
     have hex3:=HEX3.out
     rw [hl3] at hex3
     have hrr:r=some (1,l3,((V*256+Q:Nat):Int),(a:Int)):=by
      rw [HNX.out,numTok_dot HD.out H4.out H46.out HQ2.out qo]
      simp only [Option.map_some]
      rw [HDR.out,HL2.out,HL1.out,HV.out,HF.out,HU.out,HQN.out,hl3]
     subst hrr
     clear hl2 hl2l hdg2 hU hF hG hQn hl3 HEX3
     go_enter Tryz.func269,Tryz.ntmps269
     go_wp2_with fail
     (with_reducible refine (HS1.out _).mono ?_)
     rintro e w' ⟨rfl,rfl⟩
     go_wp2_with fail
     refine (HV1.out _).mono ?_
     rintro e w1 ⟨rfl,hb1⟩
     have hz1:=hb1.size
     (try simp at hz1)
     have HB1:=bh w hb1
     have HX1:=qh (Own w1 w.heap.size 101 [.int .i64 0,.string ⟨#[]⟩,.int .i64 0,.int .i64 0]) (Own.step hb1 (Own.alloc (Own.new w 101 #[_,_,_,_]) _))
     have b0:=HX1.out.cell 0
     have b1:=HX1.out.cell 1
     have b2:=HX1.out.cell 2
     have b3:=HX1.out.cell 3
     have bf:=HX1.out.frozen
     have bz:=HX1.out.lt
     (try dsimp only [List.getElem?_cons_succ,List.getElem?_cons_zero] at b0 b1 b2 b3)
     clear hb1
     go_wp2_with fail
     refine (HS2.out _).mono ?_
     rintro e w' ⟨rfl,rfl⟩
     go_wp2_with fail
     refine (HV2.out _).mono ?_
     rintro e w2 ⟨rfl,hb2⟩
     have hz2:=hb2.size
     (try simp at hz2)
     have HB2:=bh w hb2
     have HX2:=qh (Own w2 w.heap.size 101 [.int .i64 0,.string ⟨#[]⟩,.int .i64 0,.int .i64 0]) (Own.step hb2 (Own.alloc HX1.out _))
     clear b0 b1 b2 b3 bf bz
     have b0:=HX2.out.cell 0
     have b1:=HX2.out.cell 1
     have b2:=HX2.out.cell 2
     have b3:=HX2.out.cell 3
     have bf:=HX2.out.frozen
     have bz:=HX2.out.lt
     (try dsimp only [List.getElem?_cons_succ,List.getElem?_cons_zero] at b0 b1 b2 b3)
     clear hb2
     go_wp2_with fail
     (with_reducible refine (HPW.out _).mono ?_)
     rintro e w' ⟨rfl,rfl⟩
     go_wp2_with fail
     exact bodyPost_ret (v:=.tuple #[tokV (1,l3,((V*256+Q:Nat):Int),(a:Int)),.nilIface]) (by simp [results,Tryz.results269,go_sem, *]) rfl ⟨rfl,bll⟩
   ·have hne:((b.toNat:Int)==46)=false:=by rw [beq_eq_false_iff_ne];intro e;exact h46 (UInt8.toNat_inj.1 (by show b.toNat=46;omega))
    have hrr:=hNo.out (by rw [HBt.out];intro e;injection e with e;exact h46 e)
    subst hrr
    clear h46
    go_enter Tryz.func269,Tryz.ntmps269
    go_wp2_with fail
    (with_reducible refine (HS1.out _).mono ?_)
    rintro e w' ⟨rfl,rfl⟩
    go_wp2_with fail
    refine (HV1.out _).mono ?_
    rintro e w1 ⟨rfl,hb1⟩
    have hz1:=hb1.size
    (try simp at hz1)
    have HB1:=bh w hb1
    have HX1:=qh (Own w1 w.heap.size 101 [.int .i64 0,.string ⟨#[]⟩,.int .i64 0,.int .i64 0]) (Own.step hb1 (Own.alloc (Own.new w 101 #[_,_,_,_]) _))
    have b0:=HX1.out.cell 0
    have b1:=HX1.out.cell 1
    have b2:=HX1.out.cell 2
    have b3:=HX1.out.cell 3
    have bf:=HX1.out.frozen
    have bz:=HX1.out.lt
    (try dsimp only [List.getElem?_cons_succ,List.getElem?_cons_zero] at b0 b1 b2 b3)
    clear hb1
    go_wp2_with fail
    exact bodyPost_ret (v:=.tuple #[tokV (1,l1,((V*256:Nat):Int),(a:Int)),.nilIface]) (by simp [results,Tryz.results269,go_sem, *]) rfl ⟨rfl,bll⟩
  ·have hge':¬ (E:Int)<src.length:=by omega
   have hrr:=hNo.out (by rw [List.getElem?_eq_none hge];simp)
   subst hrr
   go_enter Tryz.func269,Tryz.ntmps269
   go_wp2_with fail
   (with_reducible refine (HS1.out _).mono ?_)
   rintro e w' ⟨rfl,rfl⟩
   go_wp2_with fail
   refine (HV1.out _).mono ?_
   rintro e w1 ⟨rfl,hb1⟩
   have hz1:=hb1.size
   (try simp at hz1)
   have HB1:=bh w hb1
   have HX1:=qh (Own w1 w.heap.size 101 [.int .i64 0,.string ⟨#[]⟩,.int .i64 0,.int .i64 0]) (Own.step hb1 (Own.alloc (Own.new w 101 #[_,_,_,_]) _))
   have b0:=HX1.out.cell 0
   have b1:=HX1.out.cell 1
   have b2:=HX1.out.cell 2
   have b3:=HX1.out.cell 3
   have bf:=HX1.out.frozen
   have bz:=HX1.out.lt
   (try dsimp only [List.getElem?_cons_succ,List.getElem?_cons_zero] at b0 b1 b2 b3)
   clear hb1
   go_wp2_with fail
   exact bodyPost_ret (v:=.tuple #[tokV (1,l1,((V*256:Nat):Int),(a:Int)),.nilIface]) (by simp [results,Tryz.results269,go_sem, *]) rfl ⟨rfl,bll⟩
def tokX (src:List UInt8) (a:Nat):Option Zaq:=(Zau (src.drop a)).map λx=>(x.1,(src.drop a).take x.2.1,(x.2.2:Int),(a:Int))
theorem tokX_num {src:List UInt8} {a:Nat} {b:UInt8} (h:∃ q,src.drop a=b::q) (hd:isDg b=true):tokX src a=numX src a:=by
 unfold tokX numX
 rw [scan_num h hd]
 cases numTok (src.drop a)<;>rfl
theorem kindK_dg {b:UInt8} (h:isSp b=false) (hd:isDg b=true):Zct b=2:=by unfold Zct;rw [h,hd];rfl
theorem kindK_lt {b:UInt8} (h:isSp b=false) (hd:isDg b=false) (hl:isLt b=true):Zct b=3:=by unfold Zct;rw [h,hd,hl];rfl
theorem kindK_sy {b:UInt8} (h:isSp b=false) (hd:isDg b=false) (hl:isLt b=false) (hs:isSy b=true):Zct b=4:=by unfold Zct;rw [h,hd,hl,hs];rfl
theorem kindK_no {b:UInt8} (h:isSp b=false) (hd:isDg b=false) (hl:isLt b=false) (hs:isSy b=false):Zct b=0:=by unfold Zct;rw [h,hd,hl,hs];rfl
theorem take_one {src:List UInt8} {a:Nat} {b:UInt8} (h:∃ q,src.drop a=b::q):(src.drop a).take 1=[b]:=by obtain ⟨q,hq⟩:=h;rw [hq];rfl
theorem I_tokenAt {src:List UInt8} {a:Nat} {b:UInt8} (w:World) (hb:src[a]? = some b) (hsp:isSp b=false) (hs:src.length<=1048576) :
  Calls Tryz.prog 240 #[str src,.int .i64 a] w (NumI src a (tokX src a) w):=by
 have ha:a<src.length:=by
  rcases Nat.lt_or_ge a src.length with h|h
  ·exact h
  ·rw [List.getElem?_eq_none h] at hb;cases hb
 have hat:=lx_at hb
 have HQ:=hdQ (drop_head hb)
 have ha':(a:Int)<src.length:=qo
 clear hb
 have HKO:=qh (∀ wx:World,Calls Tryz.prog 239 #[.int .u8 b.toNat] wx λe w'=>e=.returned (.int .i64 (Zct b))/\wx=w') (I_kindOf b)
 have HX:=qh (∀ b:UInt8,(∃ q,src.drop a=b::q)->tokX src a=(Zau (src.drop a)).map λx=>(x.1,(src.drop a).take x.2.1,(x.2.2:Int),(a:Int))) (λ_ _=>rfl)
 cases hd:isDg b with
 | true =>
  rw [kindK_dg hsp hd] at HKO
  have HN:=qh (∀ wx,Calls Tryz.prog 269 #[str src,.int .i64 a] wx (NumI src a (tokX src a) wx)) (λwx=>by rw [tokX_num HQ.out hd];exact I_numberAt wx (Nat.le_of_lt ha) hs)
  clear hd hsp HX
  cases hx:tokX src a with
  | none =>
   rw [hx] at HN
   have HN2:=qh (∀ wx,Calls Tryz.prog 269 #[str src,.int .i64 a] wx λe w'=>(∃ g,e=.returned (.tuple #[tokV (0,[],0,0),.iface 210 (.pointer (some ⟨g,0,none⟩))])/\wx.heap.size<=g/\Own w' g 213 [.int .i64 a])/\Below wx.heap.size wx w') HN.out
   clear HN hx
   go_enter Tryz.func240,Tryz.ntmps240
   go_wp2_with (first|(go_at_call 239;refine (HKO.out _).mono ?_;rintro e w' ⟨rfl,rfl⟩)|fail)
   refine (HN2.out _).mono ?_
   rintro e w1 ⟨⟨g,rfl,hg,ho⟩,hb1⟩
   have hz1:=hb1.size
   (try simp at hz1 hg)
   have hg2:=ho.lt
   have HB1:=bh w hb1
   have HX1:=qh (Own w1 w.heap.size 101 [.int .i64 0,.string ⟨#[]⟩,.int .i64 0,.int .i64 0]) (Own.step hb1 (Own.new w 101 #[_,_,_,_]))
   have HO:=hdQ ho
   have b0:=HX1.out.cell 0
   have b1:=HX1.out.cell 1
   have b2:=HX1.out.cell 2
   have b3:=HX1.out.cell 3
   have bf:=HX1.out.frozen
   have bz:=HX1.out.lt
   (try dsimp only [List.getElem?_cons_succ,List.getElem?_cons_zero] at b0 b1 b2 b3)
   clear hb1 ho
   go_wp2_with fail
   refine bodyPost_ret (v:=.tuple #[tokV (0,[],0,0),.iface 210 (.pointer (some ⟨g,0,none⟩))]) (by simp [results,Tryz.results240,go_sem, *]) rfl ⟨⟨_,rfl,qo, ?_⟩,bll⟩
   exact (owx HO.out)
  | some r =>
   rw [hx] at HN
   have HN2:=qh (∀ wx,CB_ Tryz.prog 269 #[str src,.int .i64 a] wx (.tuple #[tokV r,.nilIface])) HN.out
   clear HN hx
   go_enter Tryz.func240,Tryz.ntmps240
   go_wp2_with (first|(go_at_call 239;refine (HKO.out _).mono ?_;rintro e w' ⟨rfl,rfl⟩)|fail)
   refine (HN2.out _).mono ?_
   rintro e w1 ⟨rfl,hb1⟩
   have hz1:=hb1.size
   (try simp at hz1)
   have HB1:=bh w hb1
   have HX1:=qh (Own w1 w.heap.size 101 [.int .i64 0,.string ⟨#[]⟩,.int .i64 0,.int .i64 0]) (Own.step hb1 (Own.new w 101 #[_,_,_,_]))
   have b0:=HX1.out.cell 0
   have b1:=HX1.out.cell 1
   have b2:=HX1.out.cell 2
   have b3:=HX1.out.cell 3
   have bf:=HX1.out.frozen
   have bz:=HX1.out.lt
   (try dsimp only [List.getElem?_cons_succ,List.getElem?_cons_zero] at b0 b1 b2 b3)
   clear hb1
   go_wp2_with fail
   exact bodyPost_ret (v:=.tuple #[tokV r,.nilIface]) (by simp [results,Tryz.results240,go_sem, *]) rfl ⟨rfl,bll⟩
 | false =>
  cases hl:isLt b with
  | true =>
   rw [kindK_lt hsp hd hl] at HKO
   have HTX:=qh (tokX src a=if 8<Zba isNm (src.drop a) then none else some (2,(src.drop a).take (Zba isNm (src.drop a)),0,(a:Int))) (by
    unfold tokX;rw [scan_name HQ.out hd hl];split<;>rfl)
   clear hd hsp HX hl
   obtain ⟨d,hdd⟩:=qv (Zba isNm (src.drop a))
   have hdl:=Zey isNm (src.drop a)
   rw [hdd,List.length_drop] at hdl
   have HS2:=qh (∀ X:Obj,Calls Tryz.prog 270 #[str src,.int .i64 a,.slice (some ⟨w.heap.size+1,0,none⟩) 2 2] ((w.alloc X).alloc (.cells #[.int .i64 3,.int .i64 2] 3)) λe w'=>e=.returned (.int .i64 (d:Int))/\(w.alloc X).alloc (.cells #[.int .i64 3,.int .i64 2] 3)=w') (λX=>by have:=I_span2 (w.alloc X) (Nat.le_of_lt ha) hs (g:=w.heap.size+1) qs;rw [hdd] at this;exact this)
   rw [hdd] at HTX
   clear hdd
   by_cases h8:8<d
   ·have h8':(8:Int)<d:=by omega
    have hx:tokX src a=none:=by rw [HTX.out,if_pos h8]
    rw [hx]
    clear hx h8 HTX
    go_enter Tryz.func240,Tryz.ntmps240
    go_wp2_with (first|(go_at_call 239;refine (HKO.out _).mono ?_;rintro e w' ⟨rfl,rfl⟩)|fail)
    (with_reducible refine (HS2.out _).mono ?_)
    rintro e w' ⟨rfl,rfl⟩
    go_wp2_with fail
    refine bodyPost_ret (v:=.tuple #[tokV (0,[],0,0),.iface 210 (.pointer (some ⟨w.heap.size+1+1,0,none⟩))]) (by simp [results,Tryz.results240,go_sem]) rfl ⟨⟨_,rfl,qo, ?_⟩,bll⟩
    (with_reducible refine Own.at_new ?_);simp
   ·have h8':¬ (8:Int)<d:=by omega
    have hx:tokX src a=some (2,(src.drop a).take d,0,(a:Int)):=by rw [HTX.out,if_neg h8]
    rw [hx]
    clear hx h8 HTX
    obtain ⟨u,hu⟩:=qv ((src.drop a).take d)
    have hex:({ data:=src.toArray }:ByteArray).extract a (a+d)=⟨u.toArray⟩:=by rw [Zf5,hu]
    rw [hu]
    obtain ⟨E,hE⟩:=qv (a+d)
    have had:IntKind.i64.wrap ((a:Int)+d)=E:=by rw [show (a:Int)+d=((E:Nat):Int) by omega];exact IntWalk.i64_in _ qo
    have hEi:(a:Int)+d=E:=qo
    rw [hE] at hex
    have i1:(a:Int)<=E:=qo
    have i2:(E:Int)<=src.length:=qo
    clear hu hE
    go_enter Tryz.func240,Tryz.ntmps240
    go_wp2_with (first|(go_at_call 239;refine (HKO.out _).mono ?_;rintro e w' ⟨rfl,rfl⟩)|fail)
    (with_reducible refine (HS2.out _).mono ?_)
    rintro e w' ⟨rfl,rfl⟩
    go_wp2_with fail
    exact bodyPost_ret (v:=.tuple #[tokV (2,u,0,(a:Int)),.nilIface]) (by simp [results,Tryz.results240,go_sem, *]) rfl ⟨rfl,bll⟩
  | false =>
   cases hy:isSy b with
   | true =>
    rw [kindK_sy hsp hd hl hy] at HKO
    have hx:tokX src a=some (3,[b],0,(a:Int)):=by
     unfold tokX;rw [scan_sym HQ.out hd hl,if_pos hy]
     simp only [Option.map_some]
     rw [take_one HQ.out];rfl
    rw [hx]
    have hex:({ data:=src.toArray }:ByteArray).extract a (a+1)=⟨[b].toArray⟩:=by rw [Zf5,take_one HQ.out]
    have had:IntKind.i64.wrap ((a:Int)+1)=a+1:=IntWalk.i64_in _ qo
    have i2:(a:Int)+1<=src.length:=qo
    obtain ⟨u,hu⟩:=qv ([b])
    rw [hu] at hex ⊢
    clear hd hsp HX hl hy hx hu
    go_enter Tryz.func240,Tryz.ntmps240
    go_wp2_with (first|(go_at_call 239;refine (HKO.out _).mono ?_;rintro e w' ⟨rfl,rfl⟩)|fail)
    exact bodyPost_ret (v:=.tuple #[tokV (3,u,0,(a:Int)),.nilIface]) (by simp [results,Tryz.results240,go_sem, *]) rfl ⟨rfl,bll⟩
   | false =>
    rw [kindK_no hsp hd hl hy] at HKO
    have hx:tokX src a=none:=by
     unfold tokX;rw [scan_sym HQ.out hd hl,if_neg (by rw [hy];decide)];rfl
    rw [hx]
    clear hd hsp HX hl hy hx
    go_enter Tryz.func240,Tryz.ntmps240
    go_wp2_with (first|(go_at_call 239;refine (HKO.out _).mono ?_;rintro e w' ⟨rfl,rfl⟩)|fail)
    refine bodyPost_ret (v:=.tuple #[tokV (0,[],0,0),.iface 210 (.pointer (some ⟨w.heap.size+1,0,none⟩))]) (by simp [results,Tryz.results240,go_sem]) rfl ⟨⟨_,rfl,qo, ?_⟩,bll⟩
    (with_reducible refine Own.at_new ?_);simp
def Zdx (src:List UInt8) (w:World) (e:Ending) (w':World):Prop :=
 match toksF src with
 | .error o=>(∃ g,e=.returned (.tuple #[.slice none 0 0,.iface 210 (.pointer (some ⟨g,0,none⟩))])/\w.heap.size<=g/\Own w' g 213 [.int .i64 o])/\Below w.heap.size w w'
 | .ok T=>∃ A c,e=.returned (.tuple #[.slice A T.length c,.nilIface])/\Zah w' w.heap.size 101 4 A T.length c (rTok T)/\Below w.heap.size w w'
theorem Zdx.no {src:List UInt8} {w w':World} {o g:Nat} (h:toksF src=.error o) (hg:w.heap.size<=g) (ho:Own w' g 213 [.int .i64 o]) (hb:Below w.heap.size w w'):Zdx src w (.returned (.tuple #[.slice none 0 0,.iface 210 (.pointer (some ⟨g,0,none⟩))])) w':=by
 unfold Zdx;rw [h];exact ⟨⟨_,rfl,hg,ho⟩,hb⟩
theorem Zdx.yes {src:List UInt8} {w w':World} {T:List Zaq} {A:Option Addr} {n c:Nat} (h:toksF src=.ok T) (hn:n=T.length) (hg:Zah w' w.heap.size 101 4 A n c (rTok T)) (hb:Below w.heap.size w w'):Zdx src w (.returned (.tuple #[.slice A n c,.nilIface])) w':=by
 subst hn;unfold Zdx;rw [h];exact ⟨_,_,rfl,hg,hb⟩
theorem I_tokenize {src:List UInt8} (w:World) (hs:src.length<=1048576) :
  Calls Tryz.prog 190 #[str src] w (Zdx src w):=by
 have HG0:=qh (Zah (w.alloc (.cells #[] 101)) w.heap.size 101 4 (some ⟨w.heap.size,0,none⟩) 0 0 []) (Zah.lit w #[] 0 rfl (Nat.le_refl _) (Nat.zero_le _))
 rcases Nat.lt_or_ge 2000 src.length with hlen|hlen
 ·have HF:=hdQ (toksF_long hlen)
  have h1:(2000:Int)<src.length:=qo
  go_enter Tryz.func190,Tryz.ntmps190
  go_wp2_with fail
  go_ret2
  refine Zdx.no HF.out (Nat.le_succ_of_le (Nat.le_refl _)) ?_ bll
  show Own _ _ _ (#[Value.int .i64 0]:Array Value).toList
  exact Own.at_new qs
 ·have h1:¬ (2000:Int)<src.length:=by omega
  have HL:=qh (¬ 2000<src.length) qo
  go_enter Tryz.func190,Tryz.ntmps190
  go_wp2_with fail
  go_loopw [4,5] (λo_ a_ wr=>∃ (a:Nat) (l:List Zaq) (A:Option Addr) (c:Nat),a<=src.length/\a_=.int .i64 a/\o_=.slice A l.length c/\TkTo src a l/\Zah wr w.heap.size 101 4 A l.length c (rTok l)/\Below w.heap.size w wr) (λ_ a_ _=>src.length-(RowKit.intOf a_).toNat)
  case atStart=>exact ⟨0,[],_,_,Nat.zero_le _,rfl,rfl,TkTo.zero _,HG0.out,bll⟩
  case round =>
   obtain ⟨a,l,A,c,hal,rfl,rfl,ht,hg,hb⟩:=hrel
   obtain ⟨wo,rfl⟩:=qe wr
   have hla:=ht.1
   have hz:=hb.size
   have HT:=hdQ ht
   have HG:=hdQ hg
   have HB:=hdQ hb
   clear ht hg hb HG0
   rcases Nat.lt_or_ge a src.length with hlt|hge
   ·obtain ⟨b,hb⟩:∃ b,src[a]? = some b:=⟨_,List.getElem?_eq_getElem hlt⟩
    have hat:=lx_at hb
    have HBt:=hdQ hb
    have hlt':(a:Int)<src.length:=qo
    clear hb
    cases hsp:isSp b with
    | true =>
     have HKO:=qh (∀ wx:World,Calls Tryz.prog 239 #[.int .u8 b.toNat] wx λe w'=>e=.returned (.int .i64 1)/\wx=w') (by have:=I_kindOf b;rw [kindK_sp hsp] at this;exact this)
     have HN:=hdQ (HT.out.space HBt.out hsp)
     clear hsp
     go_wp2_with (first|(go_at_call 239;refine (HKO.out _).mono ?_;rintro e w' ⟨rfl,rfl⟩)|fail)
     go_roundw
     case rel=>exact ⟨a+1,l,_,_,qo,qg,rfl,HN.out,HG.out,HB.out⟩
     case measure=>exact qn
    | false =>
     have HSP:=hdQ hsp
     have hk1:(Zct b==1)=false:=beq_eq_false_iff_ne.2 (kindK_ne hsp)
     obtain ⟨kk,hkk⟩:=qv (Zct b)
     have HKO:=qh (∀ wx:World,Calls Tryz.prog 239 #[.int .u8 b.toNat] wx λe w'=>e=.returned (.int .i64 kk)/\wx=w') (by have:=I_kindOf b;rw [hkk] at this;exact this)
     rw [hkk] at hk1
     have HSC:=qh (∀ wx,Calls Tryz.prog 240 #[str src,.int .i64 a] wx (NumI src a (tokX src a) wx)) (λwx=>I_tokenAt wx HBt.out HSP.out hs)
     clear hsp hkk
     cases hk:Zau (src.drop a) with
     | none =>
      have HF:=hdQ (HT.out.bad HL.out HBt.out HSP.out hk)
      have hx:tokX src a=none:=by unfold tokX;rw [hk];rfl
      rw [hx] at HSC
      have HC:=qh (∀ wx,Calls Tryz.prog 240 #[str src,.int .i64 a] wx λe w'=>(∃ g,e=.returned (.tuple #[tokV (0,[],0,0),.iface 210 (.pointer (some ⟨g,0,none⟩))])/\wx.heap.size<=g/\Own w' g 213 [.int .i64 a])/\Below wx.heap.size wx w') HSC.out
      clear hk hx HSC
      go_wp2_with (first|(go_at_call 239;refine (HKO.out _).mono ?_;rintro e w' ⟨rfl,rfl⟩)|fail)
      refine (HC.out _).mono ?_
      rintro e w1 ⟨⟨g,rfl,hg,ho⟩,hb1⟩
      have hz1:=hb1.size
      (try simp at hz1 hg)
      have hg2:=ho.lt
      have HB1:=qh (Below w.heap.size w w1) (Below.step hb1 HB.out HB.out.size)
      have HO:=hdQ ho
      clear hb1 ho
      go_wp2_with fail
      go_ret2
      exact Zdx.no HF.out qo (owx HO.out) bll
     | some q =>
      obtain ⟨k,m,v⟩:=q
      have hm:=Zcf hk
      rw [List.length_drop] at hm
      have HN:=hdQ (HT.out.tok HBt.out HSP.out hk)
      obtain ⟨u,hu⟩:=qv ((src.drop a).take m)
      have hul:u.length=m:=by rw [<- hu,List.length_take,List.length_drop];omega
      obtain ⟨E,hE⟩:=qv (a+m)
      have hx:tokX src a=some (k,u,(v:Int),(a:Int)):=by unfold tokX;rw [hk];simp only [Option.map_some];rw [hu]
      rw [hx] at HSC
      have HC:=qh (∀ wx,CB_ Tryz.prog 240 #[str src,.int .i64 a] wx (.tuple #[tokV (k,u,(v:Int),(a:Int)),.nilIface])) HSC.out
      rw [hu,hE] at HN
      have hE1:E<=src.length:=qo
      have hE2:a<E:=qo
      have hEi:(a:Int)+u.length=E:=qo
      have hEw:IntKind.i64.wrap ((a:Int)+u.length)=E:=by rw [hEi];exact IntWalk.i64_in _ qo
      have HNG:=qh (∀ x,x∈gOf A->x<wo.heap.size) (HG.out.lt)
      clear hk hu hE hm hx HSC hul
      go_wp2_with (first|(go_at_call 239;refine (HKO.out _).mono ?_;rintro e w' ⟨rfl,rfl⟩)|(go_at_call 240;refine (HC.out _).mono ?_;rintro e w1 ⟨rfl,hb1⟩;have hz1:=hb1.size;have HB1:=qh (Below w.heap.size w w1) (Below.step hb1 HB.out HB.out.size);have HG1:=hdQ (Zah.step hb1 HG.out);clear hb1)|(at_builtin;refine wpA (w.heap.size) Tryz.underlying94 T.infoToken (rTok l) (rTok [(k,u,(v:Int),(a:Int))]) (rTok_one _) ?_ ?_ ?_;exact (gwx HG1.out);exact (ltt 1);rintro A' c' w2 gA;have g1:=gA.1;have g2:=gA.2.1;rw [rTok_snoc] at g1;have HG2:=hdQ g1;have HB2:=qh (Below w.heap.size w w2) (Below.trans bll g2);have hz2:=g2.size;have gf:=Za5.far gA (b:=w1.heap.size) (by simp;omega) (by intro hx;have:=HNG.out _ hx;omega);have c1:w2.cell? ⟨w1.heap.size,1,none⟩=some (str u):=(gf.1 1).trans qs;clear gA g1 g2 gf)|fail)
      go_roundw
      case rel=>exact ⟨E,_,_,_,hE1,rfl,by rw [List.length_append];rfl,HN.out,by rw [List.length_append];exact HG2.out,HB2.out⟩
      case measure=>exact qn
   ·obtain rfl:a=src.length:=by omega
    have HF:=hdQ (HT.out.done HL.out)
    go_wp2_with (first|(at_builtin;refine wpA (w.heap.size) Tryz.underlying94 T.infoToken (rTok l) (rTok [(0,[],0,(src.length:Int))]) (rTok_one _) ?_ ?_ ?_;exact (gwx HG.out);exact (ltt 1);rintro A' c' w2 gA;have g1:=gA.1;have g2:=gA.2.1;rw [rTok_snoc] at g1;have HG2:=hdQ g1;have HB2:=qh (Below w.heap.size w w2) (Below.trans bll g2);clear gA g1 g2)|fail)
    go_ret2
    exact Zdx.yes HF.out (by rw [List.length_append];rfl) HG2.out HB2.out
end Go.Proofs.YticdknjoapdmeaaGreatDoor
namespace Go.Proofs.YticdknjoapdmeaaGreatDoor
set_option maxHeartbeats 16000000
set_option maxRecDepth 100000
open Go.RowKit Go.Lib Go.Extern.Stop Go.Stop Go.Extern
theorem As.nil (t:Value) (w:World) :
  Calls Tryz.prog 191 #[.nilIface,t] w λe w'=>e=.returned (.bool false)/\w=w':=by
 go_enter Tryz.func191,Tryz.ntmps191
 go_wp2
 go_ret
 exact ⟨rfl,rfl⟩
theorem As.valueOfP (t:Addr) (w:World):(ReflectliteValue.unpack (.iface 212 (.pointer (some t)))).run Tryz.prog w
  = .ok (.agg #[.pointer (some ⟨9,212,none⟩),.pointer (some ⟨w.heap.size,0,none⟩),.int .u64 150]) (w.alloc (.cells #[.pointer (some t)] 212)):=kr
theorem As.typeP (a:Addr) (w:World):(ReflectliteValue.methodAny (ReflectliteValue.valueError "reflectlite.Value.Type" 0) (λt _ _ _=>ReflectliteType.toType t) #[.agg #[.pointer (some ⟨9,212,none⟩),.pointer (some a),.int .u64 150]]).run Tryz.prog w
  = .ok (.iface 295 (.agg #[.pointer (some ⟨9,212,none⟩)])) w:=kr
theorem As.methodKind (h:Value) (w:World):(Go.method 453 295 (.agg #[h]) "Kind").run Tryz.prog w=.ok (307,h) w:=kr
theorem As.kindP (w:World):((ReflectliteType.abiMethod λt=>(λa:Nat=>Value.int IntKind.u8 (a:Int)) <$> Rtype.kind t) #[.pointer (some ⟨9,212,none⟩)]).run Tryz.prog w=.ok (.int .u8 22) w:=kr
theorem As.kindE (w:World):((ReflectliteType.abiMethod λt=>(λa:Nat=>Value.int IntKind.u8 (a:Int)) <$> Rtype.kind t) #[.pointer (some ⟨9,210,none⟩)]).run Tryz.prog w=.ok (.int .u8 22) w:=kr
theorem As.rlm (z:Sem Value) (f:TypeId->Addr->Nat->Nat->Sem Value) (v:Value) :
  ReflectliteValue.method z f #[v]=(do match <- ReflectliteValue.parts v with|none=>z|some (t,a,fl)=>f t a fl (fl % 32)):=rfl
theorem As.partsP (a:Addr) (w:World):(ReflectliteValue.parts (.agg #[.pointer (some ⟨9,212,none⟩),.pointer (some a),.int .u64 150])).run Tryz.prog w=.ok (some (212,a,150)) w:=kr
theorem As.isNilP (a p:Addr) (W:World) (ha:W.cell? a=some (.pointer (some p))) :
  (ReflectliteValue.method (ReflectliteValue.valueError "reflectlite.Value.IsNil" 0) ReflectliteValue.isNil #[.agg #[.pointer (some ⟨9,212,none⟩),.pointer (some a),.int .u64 150]]).run Tryz.prog W=.ok (.bool false) W:=by
 rw [As.rlm]
 simp only [Sem.run_bind,As.partsP,Result.andThen]
 simp [ReflectliteValue.isNil,loadVar,isAgg,underlying,Tryz.underlying212,ha,Result.andThen]
theorem As.methodElem (h:Value) (w:World):(Go.method 453 295 (.agg #[h]) "Elem").run Tryz.prog w=.ok (328,.agg #[h]) w:=kr
theorem As.methodImplements (h:Value) (w:World):(Go.method 453 295 (.agg #[h]) "Implements").run Tryz.prog w=.ok (329,.agg #[h]) w:=kr
theorem As.methodAssignableTo (h:Value) (w:World):(Go.method 453 295 (.agg #[h]) "AssignableTo").run Tryz.prog w=.ok (326,.agg #[h]) w:=kr
theorem As.elemP (w:World):(ReflectliteType.method ReflectliteType.elem #[.agg #[.pointer (some ⟨9,212,none⟩)]]).run Tryz.prog w=.ok (.iface 295 (.agg #[.pointer (some ⟨9,210,none⟩)])) w:=kr
theorem As.implementsE (w:World):(ReflectliteType.relation "Implements" ReflectliteType.implements_ #[.agg #[.pointer (some ⟨9,210,none⟩)],.iface 295 (.agg #[.pointer (some ⟨9,132,none⟩)])]).run Tryz.prog w=.ok (.bool true) w:=kr
theorem As.typeOfE (v:Value) (w:World):(ReflectliteType.typeOf #[.iface 210 v]).run Tryz.prog w=.ok (.iface 295 (.agg #[.pointer (some ⟨9,210,none⟩)])) w:=kr
theorem As.assignableE (w:World):(ReflectliteType.relation "AssignableTo" ReflectliteType.assignableTo #[.agg #[.pointer (some ⟨9,210,none⟩)],.iface 295 (.agg #[.pointer (some ⟨9,210,none⟩)])]).run Tryz.prog w=.ok (.bool true) w:=kr
theorem As.valueOfE (e:Addr) (w:World):(ReflectliteValue.unpack (.iface 210 (.pointer (some e)))).run Tryz.prog w
  = .ok (.agg #[.pointer (some ⟨9,210,none⟩),.pointer (some ⟨w.heap.size,0,none⟩),.int .u64 150]) (w.alloc (.cells #[.pointer (some e)] 210)):=kr
theorem As.elemOfP (w:World):(Rtype.elem? 212).run Tryz.prog w=.ok (some 210) w:=kr
theorem As.mkE (p:Addr) (w:World):(ReflectliteValue.mk 210 p ReflectliteValue.flagAddr).run Tryz.prog w=.ok (.agg #[.pointer (some ⟨9,210,none⟩),.pointer (some p),.int .u64 406]) w:=kr
theorem As.elemVP (a p:Addr) (W:World) (ha:W.cell? a=some (.pointer (some p))) :
  (ReflectliteValue.method (ReflectliteValue.valueError "reflectlite.Value.Elem" 0) ReflectliteValue.elem #[.agg #[.pointer (some ⟨9,212,none⟩),.pointer (some a),.int .u64 150]]).run Tryz.prog W
   = .ok (.agg #[.pointer (some ⟨9,210,none⟩),.pointer (some p),.int .u64 406]) W:=by
 rw [As.rlm]
 simp only [Sem.run_bind,As.partsP,Result.andThen]
 simp [ReflectliteValue.elem,loadVar,isAgg,underlying,Tryz.underlying212,ha,Result.andThen,As.elemOfP,As.mkE]
theorem As.rls (v x:Value):ReflectliteValue.set #[v,x]=(do
  let (some (dst,a,fl),some (src,b,_)):=(<- ReflectliteValue.parts v,<- ReflectliteValue.parts x)
   | unsupported (.noEntry "extern/(internal/reflectlite.Value).Set.zeroValue")
  if fl / ReflectliteValue.flagAddr % 2==0 then unsupported (.noEntry "extern/(internal/reflectlite.Value).Set.unaddressable")
  let val <- loadVar src b
  if <- Rtype.directlyAssignable dst src then storeVar dst a val
  else if <- Rtype.implements dst src then
   if (<- Rtype.kind src)==20 then
    match val with
    | .nilIface=>unsupported (.noEntry "extern/reflectlite: a nil value of one interface type handed on as a value of another")
    | _=>storeVar dst a val
   else storeVar dst a (.iface src val)
  else panicString ("reflectlite.Set: value of type " ++ (<- Rtype.spelt src) ++ " is not assignable to type " ++ (<- Rtype.spelt dst))
  pure (.tuple #[])):=rfl
theorem As.partsEa (a:Addr) (w:World):(ReflectliteValue.parts (.agg #[.pointer (some ⟨9,210,none⟩),.pointer (some a),.int .u64 406])).run Tryz.prog w=.ok (some (210,a,406)) w:=kr
theorem As.partsE (a:Addr) (w:World):(ReflectliteValue.parts (.agg #[.pointer (some ⟨9,210,none⟩),.pointer (some a),.int .u64 150])).run Tryz.prog w=.ok (some (210,a,150)) w:=kr
theorem As.directE (w:World):(Rtype.directlyAssignable 210 210).run Tryz.prog w=.ok true w:=kr
theorem As.setE (ta b e:Addr) (old:Value) (W:World) (hb:W.cell? b=some (.pointer (some e))) (ht:W.cell? ta=some old) (hf:W.frozen? ta=false) :
  (ReflectliteValue.set #[.agg #[.pointer (some ⟨9,210,none⟩),.pointer (some ta),.int .u64 406],.agg #[.pointer (some ⟨9,210,none⟩),.pointer (some b),.int .u64 150]]).run Tryz.prog W
   = .ok (.tuple #[]) (W.setCell ta (.pointer (some e))):=by
 rw [As.rls]
 simp only [Sem.run_bind,As.partsEa,As.partsE,Result.andThen]
 simp [ReflectliteValue.flagAddr,loadVar,isAgg,underlying,Tryz.underlying210,hb,Result.andThen,As.directE,storeVar,Value.cells,storeCells,Addr.add]
 rw [run_store Tryz.prog W ta _ _ qr]
 simp [ht,hf]
def ErrT (w:World):Prop:=w.cell? ⟨1,0,none⟩=some (.iface 295 (.agg #[.pointer (some ⟨9,132,none⟩)]))
theorem ErrT.lt {w:World} (h:ErrT w):1<w.heap.size:=by
 rcases Nat.lt_or_ge 1 w.heap.size with h0|h0
 ·exact h0
 ·unfold ErrT at h;simp [World.cell?,h0] at h
theorem ErrT.step {w w':World} (h:ErrT w) (hb:Below w.heap.size w w'):ErrT w':=by
 have:=h.lt
 unfold ErrT at *
 rw [hb.cell (p:=⟨1,0,none⟩) this];exact h
set_option maxHeartbeats 4000000 in
theorem As.hit (e t:Addr) (old:Value) (w:World) (hg:ErrT w) (ht0:w.cell? t=some old) (hf0:w.frozen? t=false) :
  Calls Tryz.prog 191 #[.iface 210 (.pointer (some e)),.iface 212 (.pointer (some t))] w λev w'=>ev=.returned (.bool true)/\((((w.alloc (.cells #[.pointer (some t)] 212)).alloc (.cells #[.pointer (some ⟨9,212,none⟩),.pointer (some ⟨w.heap.size,0,none⟩),.int .u64 150] 249)).alloc (.cells #[.pointer (some ⟨9,212,none⟩),.pointer (some ⟨w.heap.size,0,none⟩),.int .u64 150] 249)).alloc (.cells #[.pointer (some e)] 210)).setCell t (.pointer (some e))=w':=by
 have hlt:=hg.lt
 unfold ErrT at hg
 have h6 := @run_callFunc_extern Tryz.prog 241 _ (λargs=>ReflectliteValue.unpack (args.getD 0 (.tuple #[]))) Tryz.func241 kr kr kr kr
 have h7 := @run_callFunc_extern Tryz.prog 242 _ (ReflectliteValue.methodAny (ReflectliteValue.valueError "reflectlite.Value.Type" 0) (λt _ _ _=>ReflectliteType.toType t)) Tryz.func242 kr kr kr kr
 have h8 := @run_callFunc_extern Tryz.prog 243 _ (ReflectliteValue.method (ReflectliteValue.valueError "reflectlite.Value.IsNil" 0) ReflectliteValue.isNil) Tryz.func243 kr kr kr kr
 have h27 := @run_callFunc_extern Tryz.prog 307 _ (ReflectliteType.abiMethod λt=>do pure (.int .u8 (<- Rtype.kind t))) Tryz.func307 kr kr kr kr
 have h37 := @run_callFunc_extern Tryz.prog 328 _ (ReflectliteType.method ReflectliteType.elem) Tryz.func328 kr kr kr kr
 have h38 := @run_callFunc_extern Tryz.prog 329 _ (ReflectliteType.relation "Implements" ReflectliteType.implements_) Tryz.func329 kr kr kr kr
 have h10 := @run_callFunc_extern Tryz.prog 271 _ ReflectliteType.typeOf Tryz.func271 kr kr kr kr
 have h35 := @run_callFunc_extern Tryz.prog 326 _ (ReflectliteType.relation "AssignableTo" ReflectliteType.assignableTo) Tryz.func326 kr kr kr kr
 have h11 := @run_callFunc_extern Tryz.prog 272 _ (ReflectliteValue.method (ReflectliteValue.valueError "reflectlite.Value.Elem" 0) ReflectliteValue.elem) Tryz.func272 kr kr kr kr
 have h12 := @run_callFunc_extern Tryz.prog 273 _ ReflectliteValue.set Tryz.func273 kr kr kr kr
 have tO:=As.typeOfE
 have mA:=As.methodAssignableTo
 have aE:=As.assignableE
 have vE:=As.valueOfE
 have fP:=As.valueOfP
 have fT:=As.typeP
 have mK:=As.methodKind
 have mE:=As.methodElem
 have mI:=As.methodImplements
 have kP:=As.kindP
 have kE:=As.kindE
 have eP:=As.elemP
 have iE:=As.implementsE
 have n8:=As.isNilP ⟨w.heap.size,0,none⟩ t ((w.alloc (.cells #[.pointer (some t)] 212)).alloc (.cells #[.pointer (some ⟨9,212,none⟩),.pointer (some ⟨w.heap.size,0,none⟩),.int .u64 150] 249)) qs
 have hg2:((w.alloc (.cells #[.pointer (some t)] 212)).alloc (.cells #[.pointer (some ⟨9,212,none⟩),.pointer (some ⟨w.heap.size,0,none⟩),.int .u64 150] 249)).cell? ⟨1,0,none⟩=some (.iface 295 (.agg #[.pointer (some ⟨9,132,none⟩)])):=by
  rw [World.cell?_alloc_lt _ _ ⟨1,0,none⟩ (by simp;try omega),World.cell?_alloc_lt _ _ ⟨1,0,none⟩ hlt];exact hg
 have htl:t.block<w.heap.size:=by
  rcases Nat.lt_or_ge t.block w.heap.size with h|h
  ·exact h
  ·simp [World.cell?,Array.getElem?_eq_none h] at ht0
 have el:=As.elemVP ⟨w.heap.size,0,none⟩ t (((w.alloc (.cells #[.pointer (some t)] 212)).alloc (.cells #[.pointer (some ⟨9,212,none⟩),.pointer (some ⟨w.heap.size,0,none⟩),.int .u64 150] 249)).alloc (.cells #[.pointer (some ⟨9,212,none⟩),.pointer (some ⟨w.heap.size,0,none⟩),.int .u64 150] 249)) (by rw [World.cell?_alloc_lt _ _ ⟨w.heap.size,0,none⟩ (by simp;omega)];simp)
 have st:=As.setE t ⟨w.heap.size+1+1+1,0,none⟩ e old ((((w.alloc (.cells #[.pointer (some t)] 212)).alloc (.cells #[.pointer (some ⟨9,212,none⟩),.pointer (some ⟨w.heap.size,0,none⟩),.int .u64 150] 249)).alloc (.cells #[.pointer (some ⟨9,212,none⟩),.pointer (some ⟨w.heap.size,0,none⟩),.int .u64 150] 249)).alloc (.cells #[.pointer (some e)] 210))
  (by rw [World.cell?_alloc_at _ _ _ _ qs];rfl)
  (by rw [World.cell?_alloc_lt _ _ t (by simp;omega),World.cell?_alloc_lt _ _ t (by simp;omega),World.cell?_alloc_lt _ _ t (by simp;omega),World.cell?_alloc_lt _ _ t htl];exact ht0)
  (by rw [World.frozen?_alloc_old _ _ t (by simp;omega),World.frozen?_alloc_old _ _ t (by simp;omega),World.frozen?_alloc_old _ _ t (by simp;omega),World.frozen?_alloc_old _ _ t (Nat.ne_of_lt htl)];exact hf0)
 go_enter Tryz.func191,Tryz.ntmps191
 go_wp2
 refine wp_loop_rounds 1 ?_
 rw [rounds_succ]
 go_wp2
 go_ret
 exact ⟨rfl,rfl⟩
end Go.Proofs.YticdknjoapdmeaaGreatDoor
namespace Go.Proofs.YticdknjoapdmeaaGreatDoor
set_option maxHeartbeats 16000000
set_option maxRecDepth 100000
open Go.RowKit Go.Lib
set_option maxHeartbeats 2000000 in
theorem I_Tokenize {src:List UInt8} (w:World) (hs:src.length<=1048576) (hE:ErrT w) :
  Calls Tryz.prog 134 #[str src] w (Zcb src 101 w):=by
 have HT:=qh (∀ wx,Calls Tryz.prog 190 #[str src] wx (Zdx src wx)) (λwx=>I_tokenize wx hs)
 have HE:=hdQ hE
 unfold Zcb
 cases ht:toksF src with
 | error o =>
  have HT2:=qh (∀ wx,Calls Tryz.prog 190 #[str src] wx λe w'=>(∃ g,e=.returned (.tuple #[.slice none 0 0,.iface 210 (.pointer (some ⟨g,0,none⟩))])/\wx.heap.size<=g/\Own w' g 213 [.int .i64 o])/\Below wx.heap.size wx w') (λwx=>by have:=HT.out wx;unfold Zdx at this;rw [ht] at this;exact this)
  clear ht HT
  go_enter Tryz.func134,Tryz.ntmps134
  go_wp2_with fail
  refine (HT2.out _).mono ?_
  rintro e w1 ⟨⟨g,rfl,hg,ho⟩,hb1⟩
  have hz1:=hb1.size
  have hg2:=ho.lt
  have HB1:=hdQ hb1
  have HO:=hdQ ho
  have HE1:=hdQ (HE.out.step hb1)
  clear hb1 ho
  go_wp2_with fail
  refine (As.hit ⟨g,0,none⟩ ⟨w1.heap.size,0,none⟩ (.pointer none) _ (HE1.out.step (Below.alloc (Below.refl _ _) (Nat.le_refl _) _)) qs qs).mono ?_
  rintro e w2 ⟨rfl,hw2⟩
  have c0:w2.cell? ⟨w1.heap.size,0,none⟩=some (.pointer (some ⟨g,0,none⟩)):=by
   rw [<- hw2]
   exact ((((((Own.new w1 210 #[.pointer none]).alloc _).alloc _).alloc _).alloc _).set_ 0 (.pointer (some ⟨g,0,none⟩))).cell 0
  have ho2:Own w2 g 213 [.int .i64 o]:=by
   rw [<- hw2]
   refine Own.far ?_ (by simp;omega) _
   exact (((((HO.out.alloc _).alloc _).alloc _).alloc _).alloc _)
  have HB2:=qh (Below w.heap.size w w2) (by rw [<- hw2];exact bll)
  have c1:w2.cell? ⟨g,0,none⟩=some (.int .i64 o):=ho2.cell 0
  clear hw2 ho2
  go_wp2_with fail
  go_region
  go_wp2_with fail
  go_ret2
  exact ⟨rfl,bll⟩
 | ok T =>
  have HT2:=qh (∀ wx,Calls Tryz.prog 190 #[str src] wx λe w'=>∃ A c,e=.returned (.tuple #[.slice A T.length c,.nilIface])/\Zah w' wx.heap.size 101 4 A T.length c (rTok T)/\Below wx.heap.size wx w') (λwx=>by have:=HT.out wx;unfold Zdx at this;rw [ht] at this;exact this)
  clear ht HT
  go_enter Tryz.func134,Tryz.ntmps134
  go_wp2_with fail
  refine (HT2.out _).mono ?_
  rintro e w1 ⟨A,c,rfl,hg,hb1⟩
  have HB1:=hdQ hb1
  have hz1:=hb1.size
  have HG1:=hdQ hg
  clear hb1 hg
  go_wp2_with (first|(go_at_call 191;refine (As.nil _ _).mono ?_;rintro e w' ⟨rfl,rfl⟩)|fail)
  go_ret2
  exact ⟨_,_,rfl,(gwx HG1.out),bll⟩
theorem T.assertNil (w:World):(Instr.typeAssert .nilIface 20 170 true).run Tryz.prog w=.ok (.tuple #[.agg #[.int .i64 0],.bool false]) w:=kr
theorem T.assertRej (o:Int) (w:World):(Instr.typeAssert (.iface 170 (.agg #[.int .i64 o])) 20 170 true).run Tryz.prog w=.ok (.tuple #[.agg #[.int .i64 o],.bool true]) w:=kr
theorem catch_tmps (x y z t a b p:Value) : #[x,y]++(((((((Array.replicate 11 undef).setIfInBounds 3 z).setIfInBounds 4 t).setIfInBounds 2 t).setIfInBounds 5 a).setIfInBounds 6 b).setIfInBounds 0 p).setIfInBounds 1 b = #[x,y,p,b,t,z,t,a,b,undef,undef,undef,undef]:=by
 rw [show (Array.replicate 11 undef:Array Value) = #[undef,undef,undef,undef,undef,undef,undef,undef,undef,undef,undef] from rfl]
 simp only [List.setIfInBounds_toArray,List.set_cons_zero,List.set_cons_succ,List.append_toArray,List.cons_append,List.nil_append]
theorem I_catchIdle {g h:Nat} (w:World) :
  CallsD Tryz.prog 135 #[.pointer (some ⟨g,0,none⟩),.pointer (some ⟨h,0,none⟩)] .returning w λe u' w'=>e=.returned (.tuple #[])/\u'=.returning/\w.alloc (.cells #[.int .i64 0] 170)=w':=by
 refine callsD_of_wpS Tryz.func135 rfl λc₀ cs hu=>?_
 have hta:=T.assertNil
 apply wpS_seq
 apply wpS_region
 simp [hta,wpOpsS,go_sem,recoverD,hu,Tryz.ntmps135,Exit.thenS]
 rw [catch_tmps]
 refine wpS_of_wp ?_
 go_wp2_with fail
 cases c₀
 simp_all [bodyPostS,results,Tryz.results135]
theorem I_catch {g h:Nat} {o:Int} (w:World) (c0 c1 c2:Value) (h0:w.cell? ⟨g,0,none⟩=some c0) (h1:w.cell? ⟨g,1,none⟩=some c1) (h2:w.cell? ⟨h,0,none⟩=some c2) (f0:∀ i,w.frozen? ⟨g,i,none⟩=false) (f2:∀ i,w.frozen? ⟨h,i,none⟩=false) (hgh:g≠h) :
  CallsD Tryz.prog 135 #[.pointer (some ⟨g,0,none⟩),.pointer (some ⟨h,0,none⟩)] (.panicking (rej o)) w λe u' w'=>e=.returned (.tuple #[])/\u'=.panicking [{ v:=.iface 170 (.agg #[.int .i64 o]),recovered:=true }]/\((((w.alloc (.cells #[.int .i64 o] 170)).setCell ⟨g,0,none⟩ (.slice none 0 0)).setCell ⟨g,1,none⟩ (.slice none 0 0)).setCell ⟨h,0,none⟩ (.int .i64 o)).drew=w':=by
 refine callsD_of_wpS Tryz.func135 rfl λc₀ cs hu=>?_
 have hta:=T.assertRej o
 apply wpS_seq
 apply wpS_region
 simp [hta,wpOpsS,go_sem,recoverD,hu,Tryz.ntmps135,Exit.thenS]
 rw [catch_tmps]
 refine wpS_of_wp ?_
 have hg:g<w.heap.size:=by
  rcases Nat.lt_or_ge g w.heap.size with q|q
  ·exact q
  ·simp [World.cell?,q] at h0
 have hh:h<w.heap.size:=by
  rcases Nat.lt_or_ge h w.heap.size with q|q
  ·exact q
  ·simp [World.cell?,q] at h2
 have hgh':¬ g=h:=hgh
 have hhg:¬ h=g:=λe=>hgh e.symm
 go_wp2_with fail
 obtain ⟨u,hu2⟩:=qv (w.alloc (.cells #[.int .i64 o] 170))
 have a0:u.cell? ⟨g,0,none⟩=some c0:=by rw [<- hu2,World.cell?_alloc_lt _ _ ⟨g,0,none⟩ hg];exact h0
 have a1:u.cell? ⟨g,1,none⟩=some c1:=by rw [<- hu2,World.cell?_alloc_lt _ _ ⟨g,1,none⟩ hg];exact h1
 have a2:u.cell? ⟨h,0,none⟩=some c2:=by rw [<- hu2,World.cell?_alloc_lt _ _ ⟨h,0,none⟩ hh];exact h2
 have b0:∀ i,u.frozen? ⟨g,i,none⟩=false:=λi=>by rw [<- hu2,World.frozen?_alloc_old _ _ ⟨g,i,none⟩ (Nat.ne_of_lt hg)];exact f0 i
 have b2:∀ i,u.frozen? ⟨h,i,none⟩=false:=λi=>by rw [<- hu2,World.frozen?_alloc_old _ _ ⟨h,i,none⟩ (Nat.ne_of_lt hh)];exact f2 i
 have d0:u.cell? ⟨w.heap.size,0,none⟩=some (.int .i64 o):=by rw [<- hu2];simp
 have hz:u.heap.size=w.heap.size+1:=by rw [<- hu2];simp
 have hgn:¬ g=w.heap.size:=qo
 have hhn:¬ h=w.heap.size:=qo
 rw [hu2]
 clear hta
 go_region_held3 (λw'=>w'.cell? ⟨w.heap.size,0,none⟩=some (.int .i64 o)/\w'.frozen? ⟨g,0,none⟩=false/\w'.frozen? ⟨g,1,none⟩=false/\w'.frozen? ⟨h,0,none⟩=false)
  (first|((try dsimp only);refine ⟨?_, ?_, ?_, ?_⟩<;>(go_simp;done))|go_keep)
  (fail)
 all_goals
  subst hu2
  exact ⟨rfl,.panicking [{ v:=.iface 170 (.agg #[.int .i64 o]),recovered:=true }],rfl,.tuple #[],by simp [results,Tryz.results135],rfl,rfl,rfl⟩
theorem I_Parse {src:List UInt8} (w:World) (hs:src.length<=1048576) (hEt:ErrT w) :
  Calls Tryz.prog 73 #[str src] w (Zbr src w):=by
 have hmf:∀ (fn:Fn) (first cap:Array Value) (w:World),(Instr.makeFunc fn first cap).run Tryz.prog w=.ok (.func fn first cap) w:=λ_ _ _ _=>rfl
 have HE:=hdQ hEt
 have HTK:=qh (∀ wx,Below w.heap.size w wx->Calls Tryz.prog 134 #[str src] wx (Zcb src 101 wx)) (λwx hb=>I_Tokenize wx hs (HE.out.step hb))
 cases ht:toksF src with
 | error o =>
  have HF:=hdQ (parF_bad ht)
  have HT2:=qh (∀ wx,Below w.heap.size w wx->CB_ Tryz.prog 134 #[str src] wx (.tuple #[.slice none 0 0,.int .i64 o])) (λwx hb=>(HTK.out wx hb).mono (λe w' h=>by unfold Zcb at h;rw [ht] at h;exact h))
  clear HTK ht hEt
  have ho0:¬ (o:Int)<0:=qo
  go_enter_defers Tryz.func73,Tryz.ntmps73
  go_wp2_with fail
  refine (HT2.out _ bll).mono ?_
  rintro e w1 ⟨rfl,hb1⟩
  have hz1:=hb1.size
  (try simp at hz1)
  have HB1:=bh w hb1
  have HO1:=qh (Own w1 w.heap.size 62 [.slice none 0 0,.slice none 0 0]) (Own.step hb1 (Own.alloc (Own.new w 62 #[_,_]) _))
  have HO2:=qh (Own w1 (w.heap.size+1) 3 [.int .i64 0]) (Own.step hb1 (by (with_reducible refine Own.at_new ?_);simp))
  have c0:=HO1.out.cell 0
  have c1:=HO1.out.cell 1
  have cf:=HO1.out.frozen
  have d0:=HO2.out.cell 0
  have df:=HO2.out.frozen
  (try dsimp only [List.getElem?_cons_succ,List.getElem?_cons_zero] at c0 c1 d0)
  clear hb1
  go_wp2_with fail
  have HO3:=qh (Own (w1.setCell ⟨w.heap.size+1,0,none⟩ (.int .i64 o)) w.heap.size 62 [.slice none 0 0,.slice none 0 0]) (HO1.out.far qs _)
  have HO4:=qh (Own (w1.setCell ⟨w.heap.size+1,0,none⟩ (.int .i64 o)) (w.heap.size+1) 3 [.int .i64 o]) (HO2.out.set_ 0 _)
  have HB3:=qh (Below w.heap.size w (w1.setCell ⟨w.heap.size+1,0,none⟩ (.int .i64 o))) bll
  clear c0 c1 cf d0 df hz1
  generalize w1.setCell ⟨w.heap.size+1,0,none⟩ (.int .i64 o)=u at *
  have c0:=HO3.out.cell 0
  have c1:=HO3.out.cell 1
  have cf:=HO3.out.frozen
  have d0:=HO4.out.cell 0
  have df:=HO4.out.frozen
  have hz3:=HO4.out.lt
  have hz4:w.heap.size<u.heap.size:=qo
  (try dsimp only [List.getElem?_cons_succ,List.getElem?_cons_zero] at c0 c1 d0)
  go_region_held3 (λw'=>w'.cell? ⟨w.heap.size+1,0,none⟩=some (.int .i64 o)/\w'.frozen? ⟨w.heap.size,0,none⟩=false/\w'.frozen? ⟨w.heap.size,1,none⟩=false/\w'.frozen? ⟨w.heap.size+1,0,none⟩=false)
   (first|((try dsimp only);refine ⟨?_, ?_, ?_, ?_⟩<;>(go_simp;done))|go_keep)
   (fail)
  all_goals
   go_wp2_with fail
   refine ⟨.tuple #[.agg #[.slice none 0 0,.slice none 0 0],.int .i64 o], ?_,Zbr.mk_ HF.out rfl rfl (Zbm.nil _ _) bll⟩
   simp [results,Tryz.results73,go_sem, *]
 | ok Ts =>
  have HPF:=hdQ (parF_ok ht)
  obtain ⟨hk,hl2⟩:=toksF_k ht
  obtain ⟨R,hR⟩:=asg_ends hk.ok (N:=Zc6 Ts) (Nat.le_refl _) (Ts.length+1) 0 [] [] hk.ok.pos qo
  have HT2:=qh (∀ wx,Below w.heap.size w wx->Calls Tryz.prog 134 #[str src] wx λe w'=>∃ g c,e=.returned (.tuple #[.slice (some ⟨g,0,none⟩) Ts.length c,.int .i64 (-1)])/\Zah w' wx.heap.size 101 4 (some ⟨g,0,none⟩) Ts.length c (rTok Ts)/\Below wx.heap.size wx w') (λwx hb=>(HTK.out wx hb).mono (λe w' h=>by
   unfold Zcb at h
   rw [ht] at h
   obtain ⟨A,c,rfl,hg,hb⟩:=h
   rcases hg.shape with ⟨_,h0,_⟩|⟨g,cur,rfl,_⟩
   ·have:=hk.ok.pos;omega
   ·exact ⟨g,c,rfl,hg,hb⟩))
  have HAS:=qh (∀ (wx:World) (g tc B:Nat),Zbf wx B (w.heap.size+2) (some ⟨g,0,none⟩) tc Ts none 0 [] (List.range (w.heap.size+2)) 0 0 none 0 []->Calls Tryz.prog 136 #[.pointer (some ⟨B,0,none⟩)] wx (AOut B (w.heap.size+2) (some ⟨g,0,none⟩) tc Ts (List.range (w.heap.size+2)) R wx)) (λwx g tc B q=>I_assignments hk hl2 wx q hR)
  have HR:=hdQ hR
  have HK:=hdQ hk
  clear HTK ht hR hEt
  go_enter_defers Tryz.func73,Tryz.ntmps73
  go_wp2_with fail
  refine (HT2.out _ bll).mono ?_
  rintro e w1 ⟨g,tc,rfl,hg1,hb1⟩
  have hz1:=hb1.size
  rw [World.size_alloc,World.size_alloc] at hg1
  (try simp at hz1)
  have HB1:=bh w hb1
  have HO1:=qh (Own w1 w.heap.size 62 [.slice none 0 0,.slice none 0 0]) (Own.step hb1 (Own.alloc (Own.new w 62 #[_,_]) _))
  have HO2:=qh (Own w1 (w.heap.size+1) 3 [.int .i64 0]) (Own.step hb1 (by (with_reducible refine Own.at_new ?_);simp))
  have HG1:=hdQ hg1
  clear hb1 hg1
  have HO3:=qh (Own (w1.setCell ⟨w.heap.size+1,0,none⟩ (.int .i64 (-1))) w.heap.size 62 [.slice none 0 0,.slice none 0 0]) (HO1.out.far qs _)
  have HO4:=qh (Own (w1.setCell ⟨w.heap.size+1,0,none⟩ (.int .i64 (-1))) (w.heap.size+1) 3 [.int .i64 (-1)]) (HO2.out.set_ 0 _)
  have HB3:=qh (Below w.heap.size w (w1.setCell ⟨w.heap.size+1,0,none⟩ (.int .i64 (-1)))) bll
  have HG3:=qh (Zah (w1.setCell ⟨w.heap.size+1,0,none⟩ (.int .i64 (-1))) (w.heap.size+2) 101 4 (some ⟨g,0,none⟩) Ts.length tc (rTok Ts)) (HG1.out.far qs _)
  have c0:=HO1.out.cell 0
  have d0:=HO2.out.cell 0
  have df:=HO2.out.frozen
  (try dsimp only [List.getElem?_cons_succ,List.getElem?_cons_zero] at c0 d0)
  have hs3:(w1.setCell ⟨w.heap.size+1,0,none⟩ (.int .i64 (-1))).heap.size=w1.heap.size:=by simp [World.setCell]
  obtain ⟨u,hu⟩:=qv (w1.setCell ⟨w.heap.size+1,0,none⟩ (.int .i64 (-1)))
  rw [hu] at HO3 HO4 HB3 HG3 hs3
  have x0:=HO4.out.cell 0
  have xf:=HO4.out.frozen
  (try dsimp only [List.getElem?_cons_succ,List.getElem?_cons_zero] at x0)
  have HIP:=qh (Zbf (u.alloc (.cells #[.slice (some ⟨g,0,none⟩) Ts.length tc,.int .i64 0,.int .i64 0,.slice none 0 0,.slice none 0 0] 174)) w1.heap.size (w.heap.size+2) (some ⟨g,0,none⟩) tc Ts none 0 [] (List.range (w.heap.size+2)) 0 0 none 0 []) (by
   have hTl:∀ x,x∈gOf (some (⟨g,0,none⟩:Addr))->w.heap.size+2<=x/\x<w1.heap.size:=λx hx=>⟨HG3.out.ge x hx,by have:=HG3.out.lt x hx;omega⟩
   refine ⟨Own.at_new (cs := #[_,_,_,_,_]) hs3.symm,⟨(HG3.out.alloc _).rs,Zah.nil _ _ _ _,⟨[],Zah.nil _ _ _ _,Zb4.nil _ _ _,Zfv.nil _⟩,λx hx=>⟨?_,by simp [gOf],by simp [gOf], ?_⟩,λx hx=>by simp [gOf] at hx,λx hx=>by simp [gOf] at hx, ?_, ?_,λx hx=>?_,λx hx=>?_,qs⟩⟩
   ·have:=hTl x hx;omega
   ·have:=hTl x hx;simp;omega
   ·simp;omega
   ·simp;omega
   ·have:=hTl x hx;simp;omega
   ·simp at hx ⊢;omega)
  have HO3':Hid (Own (u.alloc (.cells #[.slice (some ⟨g,0,none⟩) Ts.length tc,.int .i64 0,.int .i64 0,.slice none 0 0,.slice none 0 0] 174)) w.heap.size 62 [.slice none 0 0,.slice none 0 0]):=hdQ (HO3.out.alloc _)
  have HO4':Hid (Own (u.alloc (.cells #[.slice (some ⟨g,0,none⟩) Ts.length tc,.int .i64 0,.int .i64 0,.slice none 0 0,.slice none 0 0] 174)) (w.heap.size+1) 3 [.int .i64 (-1)]):=hdQ (HO4.out.alloc _)
  have HB3':Hid (Below w.heap.size w (u.alloc (.cells #[.slice (some ⟨g,0,none⟩) Ts.length tc,.int .i64 0,.int .i64 0,.slice none 0 0,.slice none 0 0] 174))):=hdQ (Below.alloc HB3.out HB3.out.size _)
  have HA:=hdQ (HAS.out _ _ _ _ HIP.out)
  go_wp2_with fail
  clear hu
  cases R with
  | error o =>
   refine HA.out.mono ?_
   rintro e u1 ⟨hO,rfl,hd⟩
   have HO5:=hdQ (hO.own HO3'.out HO3'.out.lt (by simp;omega))
   have HO6:=hdQ (hO.own HO4'.out HO4'.out.lt (by simp;omega))
   have HB5:=qh (Below w.heap.size w u1) (Zcp HB3'.out hO (λy hy=>by simp at hy;omega))
   have HF:=qh (parF src=(([],[]),o)) (by rw [HPF.out];exact parT_no HR.out)
   clear hO hd
   go_wp2_with fail
   refine leaves_cons (f:=135) (args := #[.pointer (some ⟨w.heap.size,0,none⟩),.pointer (some ⟨w.heap.size+1,0,none⟩)]) qs (by have hf:=Tryz.func135;simp [go_sem,hf]) ?_
   refine (I_catch u1 _ _ _ (HO5.out.cell 0) (HO5.out.cell 1) (HO6.out.cell 0) HO5.out.frozen HO6.out.frozen qo).mono ?_
   rintro e m w' ⟨rfl,rfl,hw'⟩
   have k0:=Own.drew (Own.far (Own.set_ (Own.set_ (HO5.out.alloc (.cells #[.int .i64 o] 170)) 0 (.slice none 0 0)) 1 (.slice none 0 0)) (p:=⟨w.heap.size+1,0,none⟩) qs (.int .i64 o))
   have k2:=Own.drew (Own.set_ (Own.far (Own.far (HO6.out.alloc (.cells #[.int .i64 o] 170)) (p:=⟨w.heap.size,0,none⟩) qs (.slice none 0 0)) (p:=⟨w.heap.size,1,none⟩) qs (.slice none 0 0)) 0 (.int .i64 o))
   rw [hw'] at k0 k2
   have hz5:=HB5.out.size
   have HBF:Below w.heap.size w w':=by rw [<- hw'];exact bll
   have y0:=k0.cell 0
   have y1:=k0.cell 1
   have y2:=k2.cell 0
   (try simp at y0 y1 y2)
   refine ⟨.tuple #[.agg #[.slice none 0 0,.slice none 0 0],.int .i64 o], ?_,Zbr.mk_ HF.out rfl rfl (Zbm.nil _ _) HBF⟩
   simp [results,Tryz.results73,go_sem,y0,y1,y2]
  | ok p =>
   refine HA.out.mono ?_
   rintro e u1 ⟨hO,AA,ac,a,NA,nc,rfl,hip,hal⟩
   have HO5:=hdQ (hO.own HO3'.out HO3'.out.lt (by simp;omega))
   have HO6:=hdQ (hO.own HO4'.out HO4'.out.lt (by simp;omega))
   have HB5:=qh (Below w.heap.size w u1) (Zcp HB3'.out hO (λy hy=>by simp at hy;omega))
   have HF:=qh (parF src=(p, -1)) (by rw [HPF.out];exact parT_yes HR.out)
   have HP1:=hdQ hip
   obtain ⟨zB,_,_,_,z3,z4,_⟩:=hip.cells
   have y0:=HO5.out.cell 0
   have y1:=HO5.out.cell 1
   have yf:=HO5.out.frozen
   have yz:=HO5.out.lt
   have v0:=HO6.out.cell 0
   have vf:=HO6.out.frozen
   have vz:=HO6.out.lt
   (try dsimp only [List.getElem?_cons_succ,List.getElem?_cons_zero] at y0 y1 v0)
   clear hO hip
   go_wp2_with fail
   have k0:=Own.far (Own.set_ (Own.set_ HO5.out 0 (.slice NA p.1.length nc)) 1 (.slice AA p.2.length ac)) (p:=⟨w.heap.size+1,0,none⟩) qs (.int .i64 (-1))
   have k2:=Own.set_ (Own.far (Own.far HO6.out (p:=⟨w.heap.size,0,none⟩) qs (.slice NA p.1.length nc)) (p:=⟨w.heap.size,1,none⟩) qs (.slice AA p.2.length ac)) 0 (.int .i64 (-1))
   refine leaves_cons (f:=135) (args := #[.pointer (some ⟨w.heap.size,0,none⟩),.pointer (some ⟨w.heap.size+1,0,none⟩)]) qs (by have hf:=Tryz.func135;simp [go_sem,hf]) ?_
   refine (I_catchIdle _).mono ?_
   rintro e m w' ⟨rfl,rfl,hw'⟩
   have k0':=k0.alloc (.cells #[.int .i64 0] 170)
   have k2':=k2.alloc (.cells #[.int .i64 0] 170)
   rw [hw'] at k0' k2'
   have hz5:=HB5.out.size
   have HBF:Below w.heap.size w w':=by rw [<- hw'];exact bll
   have hPM:Zbm w' w.heap.size NA nc p.1 AA ac p.2:=by
    refine Zbm.mono (PMem.progM (base:=w.heap.size+2) (B:=w1.heap.size) (TA:=some ⟨g,0,none⟩) (tc:=tc) (T:=Ts) (HP1.out.2.keepX ?_ (λz h1 h2 h3=>?_)) qo) qo
    ·rw [<- hw'];simp [World.setCell]
    ·have hz:z≠w.heap.size/\z≠w.heap.size+1:=by simp at h2;omega
     rw [<- hw',Below.heap_alloc _ _ _ (by simpa [World.setCell] using h3),Below.heap_setCell _ _ _ _ (by exact hz.2),Below.heap_setCell _ _ _ _ (by exact hz.1),Below.heap_setCell _ _ _ _ (by exact hz.1)]
   have x0:=k0'.cell 0
   have x1:=k0'.cell 1
   have x2:=k2'.cell 0
   (try simp at x0 x1 x2)
   refine ⟨.tuple #[.agg #[.slice NA p.1.length nc,.slice AA p.2.length ac],.int .i64 (-1)], ?_,Zbr.mk_ HF.out rfl rfl hPM HBF⟩
   simp [results,Tryz.results73,go_sem,x0,x1,x2]
theorem I_readLine_cam {w0 w:World} {X:Nat} {s:EScene} (l:List UInt8) (hl:l.length<=1048576) (he:Env w0) (hT:ErrT w0) (hb:Below w0.heap.size w0 w) (h:Zc4 w w0.heap.size X s) (hp:s.ps.length<=1000000) (hq:s.ss.length<=1000000) (hu:(cut l [32]).1=wCam) :
  Calls Tryz.prog 26 #[.pointer (some ⟨X,0,none⟩),str l] w λe w'=>e=.returned (.tuple #[])/\Zc4 w' w0.heap.size X (setCam s (parCam (cut l [32]).2.1))/\Below w0.heap.size w0 w':=by
 have HE:=hdQ he
 have HET:=hdQ hT
 have HLN:=hdQ (Ze6 l 32)
 obtain ⟨TX,tc,P,pc,Q,qc,hX,ho,hr⟩:=h
 have HO:=hdQ ho
 have HR:=hdQ hr
 have HB:=hdQ hb
 have hzw:=hb.size
 have hxl:=ho.lt
 have HCT:=qh (CB_ Tryz.prog 69 #[str l,.string ⟨#[32]⟩] w (.tuple #[.string ⟨#[99,97,109,101,114,97]⟩,str (cut l [32]).2.1,.bool (cut l [32]).2.2])) (by have:=I_CutS l 32 w hl (he.step hb);rw [hu] at this;exact this)
 have HPC:=qh (∀ wx,Below w0.heap.size w0 wx->CB_ Tryz.prog 70 #[str (cut l [32]).2.1] wx (.tuple #[.agg ⟨cCam (setCam s (parCam (cut l [32]).2.1))⟩,.bool (parCam (cut l [32]).2.1).isSome])) (λwx hb=>by
  have:=I_ParseCamera (cut l [32]).2.1 wx (by have:=HLN.out;omega) (HE.out.step hb)
  unfold outC at this
  rw [cCam_set s] at this
  exact this)
 clear hu he hT hb ho hr HLN
 generalize parCam (cut l [32]).2.1=oc at *
 generalize (cut l [32]).2.1=v at *
 generalize (cut l [32]).2.2=fd at *
 go_enter Tryz.func26,Tryz.ntmps26
 go_wp2_with fail
 refine HCT.out.mono ?_
 rintro e w1 ⟨rfl,hb1⟩
 have hz1:=hb1.size
 have HB1:=qh (Below w0.heap.size w0 w1) (Below.step hb1 HB.out hzw)
 have HO1:=qh (Own w1 X 30 (cS s TX tc P pc Q qc)) (Own.step hb1 HO.out)
 have HR1:=qh (SceneR w1 w0.heap.size [X] s TX tc P pc Q qc) (HR.out.step hb1)
 clear hb1 HO HR
 go_wp2_with fail
 refine (HPC.out _ HB1.out).mono ?_
 rintro e w2 ⟨rfl,hb2⟩
 have hz2:=hb2.size
 obtain ⟨w3,hst,hs,hbk,hs3,e1,e2,e3⟩:=Zay (P:=Tryz.prog) (T:=23) (zs:=cCam (setCam s oc)) (k:=0) (Own.step hb2 HO1.out) zz_camI (by show 7<=12;omega) qr
 have HST:=hdQ hst
 have HAT:=qh (OnlyAt X w2 w3) ⟨hbk,hs3,e1,e2,e3⟩
 have HO3:=qh (Own w3 X 30 (cS (setCam s oc) TX tc P pc Q qc)) (by rw [<- cS_camP];exact hs)
 have HB2:=qh (Below w0.heap.size w0 w2) (Below.step hb2 HB1.out qo)
 have HR2:=qh (SceneR w2 w0.heap.size [X] s TX tc P pc Q qc) (HR1.out.step hb2)
 clear hb2 hst hs hbk hs3 e1 e2 e3
 go_wp2_with (first|(refine Zaf rfl 23 (.tmp 25) (.tmp 22) rfl rfl rfl HST.out ?_)|fail)
 go_end0
 have hrows:=Zfy s oc
 exact ⟨rfl,⟨TX,tc,P,pc,Q,qc,hX,HO3.out,(HR2.out.at_ HAT.out).same hrows.1 hrows.2.1 hrows.2.2⟩,HAT.out.below hX HB2.out⟩
theorem I_readLine_side {w0 w:World} {X:Nat} {s:EScene} (l:List UInt8) (hl:l.length<=1048576) (he:Env w0) (hT:ErrT w0) (hb:Below w0.heap.size w0 w) (h:Zc4 w w0.heap.size X s) (hp:s.ps.length<=1000000) (hq:s.ss.length<=1000000) (hu:(cut l [32]).1=wSide) :
  Calls Tryz.prog 26 #[.pointer (some ⟨X,0,none⟩),str l] w λe w'=>e=.returned (.tuple #[])/\Zc4 w' w0.heap.size X ({ s with side:=(parseI (cut l [32]).2.1).getD 0 })/\Below w0.heap.size w0 w':=by
 have HE:=hdQ he
 have HET:=hdQ hT
 have HLN:=hdQ (Ze6 l 32)
 obtain ⟨TX,tc,P,pc,Q,qc,hX,ho,hr⟩:=h
 have HO:=hdQ ho
 have HR:=hdQ hr
 have HB:=hdQ hb
 have hzw:=hb.size
 have hxl:=ho.lt
 have HCT:=qh (CB_ Tryz.prog 69 #[str l,.string ⟨#[32]⟩] w (.tuple #[.string ⟨#[115,105,100,101]⟩,str (cut l [32]).2.1,.bool (cut l [32]).2.2])) (by have:=I_CutS l 32 w hl (he.step hb);rw [hu] at this;exact this)
 have HPI:=qh (∀ wx,Below w0.heap.size w0 wx->CB_ Tryz.prog 72 #[str (cut l [32]).2.1] wx (.tuple #[.int .i64 ((parseI (cut l [32]).2.1).getD 0),.bool (parseI (cut l [32]).2.1).isSome])) (λwx hb=>Zej (cut l [32]).2.1 wx (by have:=HLN.out;omega) (HE.out.step hb))
 clear hu he hT hb ho hr HLN
 generalize parseI (cut l [32]).2.1=oi at *
 generalize (cut l [32]).2.1=v at *
 generalize (cut l [32]).2.2=fd at *
 generalize oi.getD 0=iv at *
 go_enter Tryz.func26,Tryz.ntmps26
 go_wp2_with fail
 refine HCT.out.mono ?_
 rintro e w1 ⟨rfl,hb1⟩
 have hz1:=hb1.size
 have HB1:=qh (Below w0.heap.size w0 w1) (Below.step hb1 HB.out hzw)
 have HO1:=qh (Own w1 X 30 (cS s TX tc P pc Q qc)) (Own.step hb1 HO.out)
 have HR1:=qh (SceneR w1 w0.heap.size [X] s TX tc P pc Q qc) (HR.out.step hb1)
 clear hb1 HO HR
 go_wp2_with fail
 refine (HPI.out _ HB1.out).mono ?_
 rintro e w2 ⟨rfl,hb2⟩
 have hz2:=hb2.size
 have HO2:=qh (Own w2 X 30 (cS s TX tc P pc Q qc)) (Own.step hb2 HO1.out)
 have HB2:=qh (Below w0.heap.size w0 w2) (Below.step hb2 HB1.out qo)
 have HR2:=qh (SceneR w2 w0.heap.size [X] s TX tc P pc Q qc) (HR1.out.step hb2)
 have x11:w2.cell? ⟨X,11,none⟩=some (.int .i64 s.side):=HO2.out.cell 11
 have f11:=HO2.out.frozen 11
 have l11:=HO2.out.lt
 clear hb2
 go_wp2_with fail
 go_end0
 exact ⟨rfl,⟨TX,tc,P,pc,Q,qc,hX,HO2.out.set_ 11 (.int .i64 iv),(HR2.out.at_ (OnlyAt.setCell _ _ _ _)).same rfl rfl rfl⟩,(OnlyAt.setCell _ _ _ _).below hX HB2.out⟩
theorem I_readLine_tex {w0 w:World} {X:Nat} {s:EScene} (l:List UInt8) (hl:l.length<=1048576) (he:Env w0) (hT:ErrT w0) (hb:Below w0.heap.size w0 w) (h:Zc4 w w0.heap.size X s) (hp:s.ps.length<=1000000) (hq:s.ss.length<=1000000) (hu:(cut l [32]).1=wTex) :
  Calls Tryz.prog 26 #[.pointer (some ⟨X,0,none⟩),str l] w λe w'=>e=.returned (.tuple #[])/\Zc4 w' w0.heap.size X (setTex s (parTex (cut l [32]).2.1))/\Below w0.heap.size w0 w':=by
 have HE:=hdQ he
 have HET:=hdQ hT
 have HLN:=hdQ (Ze6 l 32)
 obtain ⟨TX,tc,P,pc,Q,qc,hX,ho,hr⟩:=h
 have HO:=hdQ ho
 have HR:=hdQ hr
 have HB:=hdQ hb
 have hzw:=hb.size
 have hxl:=ho.lt
 have HCT:=qh (CB_ Tryz.prog 69 #[str l,.string ⟨#[32]⟩] w (.tuple #[.string ⟨#[116,101,120,116,117,114,101]⟩,str (cut l [32]).2.1,.bool (cut l [32]).2.2])) (by have:=I_CutS l 32 w hl (he.step hb);rw [hu] at this;exact this)
 have HPT:=qh (∀ wx,Below w0.heap.size w0 wx->Calls Tryz.prog 71 #[str (cut l [32]).2.1] wx (Zft (parTex (cut l [32]).2.1) wx)) (λwx hb=>I_ParseTexture (cut l [32]).2.1 wx (by have:=HLN.out;omega) (HE.out.step hb))
 clear hu he hT hb ho hr HLN
 rw [Zfl]
 unfold Zft at HPT
 generalize parTex (cut l [32]).2.1=ot at *
 generalize (cut l [32]).2.1=v at *
 generalize (cut l [32]).2.2=fd at *
 generalize (ot.getD (0,[])).1=lg at *
 generalize (ot.getD (0,[])).2=tx at *
 generalize ot.isSome=bo at *
 go_enter Tryz.func26,Tryz.ntmps26
 go_wp2_with fail
 refine HCT.out.mono ?_
 rintro e w1 ⟨rfl,hb1⟩
 have hz1:=hb1.size
 have HB1:=qh (Below w0.heap.size w0 w1) (Below.step hb1 HB.out hzw)
 have HO1:=qh (Own w1 X 30 (cS s TX tc P pc Q qc)) (Own.step hb1 HO.out)
 have HR1:=qh (SceneR w1 w0.heap.size [X] s TX tc P pc Q qc) (HR.out.step hb1)
 clear hb1 HO HR
 go_wp2_with fail
 refine (HPT.out _ HB1.out).mono ?_
 rintro e w2 ⟨A,c,rfl,hown,hge,hb2⟩
 have hz2:=hb2.size
 obtain ⟨w3,hst,hs,hbk,hs3,e1,e2,e3⟩:=Zay (P:=Tryz.prog) (T:=26) (zs:=[.int .i64 lg,.slice A tx.length c]) (k:=7) (Own.step hb2 HO1.out) zz_texI (by show 9<=12;omega) qr
 have HST:=hdQ hst
 have HAT:=qh (OnlyAt X w2 w3) ⟨hbk,hs3,e1,e2,e3⟩
 have HO3:=qh (Own w3 X 30 (cS { s with log:=lg,tex:=tx } A c P pc Q qc)) hs
 have HB2:=qh (Below w0.heap.size w0 w2) (Below.step hb2 HB1.out qo)
 have HR2:=qh (SceneR w2 w0.heap.size [X] { s with log:=lg,tex:=tx } A c P pc Q qc) (HR1.out.setTex hb2 (by intro z hz;simp at hz;omega) qo lg hown hge)
 clear hb2 hst hs hbk hs3 e1 e2 e3 hown hge
 go_wp2_with (first|(refine Zaf rfl 26 (.tmp 35) (.tmp 32) rfl rfl rfl HST.out ?_)|fail)
 go_end0
 exact ⟨rfl,⟨A,c,P,pc,Q,qc,hX,HO3.out,HR2.out.at_ HAT.out⟩,HAT.out.below hX HB2.out⟩
theorem I_readLine_no {w0 w:World} {X:Nat} {s:EScene} (l:List UInt8) (hl:l.length<=1048576) (he:Env w0) (hT:ErrT w0) (hb:Below w0.heap.size w0 w) (h:Zc4 w w0.heap.size X s) (hp:s.ps.length<=1000000) (hq:s.ss.length<=1000000) (h1:(cut l [32]).1≠wCam) (h2:(cut l [32]).1≠wTex) (h3:(cut l [32]).1≠wSide) (h4:(cut l [32]).1≠wShad) (h5:(cut l [32]).1≠wSurf) :
  Calls Tryz.prog 26 #[.pointer (some ⟨X,0,none⟩),str l] w λe w'=>e=.returned (.tuple #[])/\Zc4 w' w0.heap.size X (s)/\Below w0.heap.size w0 w':=by
 have HE:=hdQ he
 have HET:=hdQ hT
 have HLN:=hdQ (Ze6 l 32)
 obtain ⟨TX,tc,P,pc,Q,qc,hX,ho,hr⟩:=h
 have HO:=hdQ ho
 have HR:=hdQ hr
 have HB:=hdQ hb
 have hzw:=hb.size
 have hxl:=ho.lt
 have HCT:=qh (CB_ Tryz.prog 69 #[str l,.string ⟨#[32]⟩] w (.tuple #[str (cut l [32]).1,str (cut l [32]).2.1,.bool (cut l [32]).2.2])) (I_CutS l 32 w hl (he.step hb))
 have k1:((cut l [32]).1==[99,97,109,101,114,97])=false:=by rw [beq_eq_false_iff_ne];exact h1
 have k2:((cut l [32]).1==[116,101,120,116,117,114,101])=false:=by rw [beq_eq_false_iff_ne];exact h2
 have k3:((cut l [32]).1==[115,105,100,101])=false:=by rw [beq_eq_false_iff_ne];exact h3
 have k4:((cut l [32]).1==[115,104,97,100,101,114])=false:=by rw [beq_eq_false_iff_ne];exact h4
 have k5:((cut l [32]).1==[115,117,114,102,97,99,101])=false:=by rw [beq_eq_false_iff_ne];exact h5
 clear h1 h2 h3 h4 h5 he hT hb ho hr HLN
 generalize (cut l [32]).1=u at *
 generalize (cut l [32]).2.1=v at *
 generalize (cut l [32]).2.2=fd at *
 go_enter Tryz.func26,Tryz.ntmps26
 go_wp2_with fail
 refine HCT.out.mono ?_
 rintro e w1 ⟨rfl,hb1⟩
 have hz1:=hb1.size
 have HB1:=qh (Below w0.heap.size w0 w1) (Below.step hb1 HB.out hzw)
 have HO1:=qh (Own w1 X 30 (cS s TX tc P pc Q qc)) (Own.step hb1 HO.out)
 have HR1:=qh (SceneR w1 w0.heap.size [X] s TX tc P pc Q qc) (HR.out.step hb1)
 clear hb1 HO HR
 go_wp2_with fail
 go_end0
 exact ⟨rfl,⟨TX,tc,P,pc,Q,qc,hX,HO1.out,HR1.out⟩,HB1.out⟩
theorem I_readLine_shad {w0 w:World} {X:Nat} {s:EScene} (l:List UInt8) (hl:l.length<=1048576) (he:Env w0) (hT:ErrT w0) (hb:Below w0.heap.size w0 w) (h:Zc4 w w0.heap.size X s) (hp:s.ps.length<=1000000) (hq:s.ss.length<=1000000) (hu:(cut l [32]).1=wShad) :
  Calls Tryz.prog 26 #[.pointer (some ⟨X,0,none⟩),str l] w λe w'=>e=.returned (.tuple #[])/\Zc4 w' w0.heap.size X ({ s with ps:=s.ps++[(parF (cut l [32]).2.1).1] })/\Below w0.heap.size w0 w':=by
 have HE:=hdQ he
 have HET:=hdQ hT
 have HLN:=hdQ (Ze6 l 32)
 obtain ⟨TX,tc,P,pc,Q,qc,hX,ho,hr⟩:=h
 have HO:=hdQ ho
 have HR:=hdQ hr
 have HB:=hdQ hb
 have hzw:=hb.size
 have hxl:=ho.lt
 have HCT:=qh (CB_ Tryz.prog 69 #[str l,.string ⟨#[32]⟩] w (.tuple #[.string ⟨#[115,104,97,100,101,114]⟩,str (cut l [32]).2.1,.bool (cut l [32]).2.2])) (by have:=I_CutS l 32 w hl (he.step hb);rw [hu] at this;exact this)
 have HPS:=qh (∀ wx,Below w0.heap.size w0 wx->Calls Tryz.prog 73 #[str (cut l [32]).2.1] wx (Zbr (cut l [32]).2.1 wx)) (λwx hb=>I_Parse wx (by have:=HLN.out;omega) (HET.out.step hb))
 clear hu he hT hb ho hr HLN
 unfold Zbr at HPS
 generalize parF (cut l [32]).2.1=pr at *
 generalize (cut l [32]).2.1=v at *
 generalize (cut l [32]).2.2=fd at *
 generalize pr.1=p at *
 generalize pr.2=po at *
 go_enter Tryz.func26,Tryz.ntmps26
 go_wp2_with fail
 refine HCT.out.mono ?_
 rintro e w1 ⟨rfl,hb1⟩
 have hz1:=hb1.size
 have HB1:=qh (Below w0.heap.size w0 w1) (Below.step hb1 HB.out hzw)
 have HO1:=qh (Own w1 X 30 (cS s TX tc P pc Q qc)) (Own.step hb1 HO.out)
 have HR1:=qh (SceneR w1 w0.heap.size [X] s TX tc P pc Q qc) (HR.out.step hb1)
 clear hb1 HO HR
 go_wp2_with fail
 refine (HPS.out _ HB1.out).mono ?_
 rintro e w2 ⟨NA,nc,AA,ac,rfl,hpm,hb2⟩
 have hz2:=hb2.size
 have HBV:=hdQ hb2
 have HPM:=hdQ hpm
 have HO2:=qh (Own (w2.alloc (.cells #[.slice NA p.1.length nc,.slice AA p.2.length ac] 62)) X 30 (cS s TX tc P pc Q qc)) (Own.alloc (Own.step hb2 HO1.out) _)
 have HBX:=qh (Own (w2.alloc (.cells #[.slice NA p.1.length nc,.slice AA p.2.length ac] 62)) w2.heap.size 62 [.slice NA p.1.length nc,.slice AA p.2.length ac]) (Own.new w2 _ #[_,_])
 have HB2:=qh (Below w0.heap.size w0 (w2.alloc (.cells #[.slice NA p.1.length nc,.slice AA p.2.length ac] 62))) ((Below.step hb2 HB1.out qo).alloc qo _)
 have hv2:Below w2.heap.size w2 (w2.alloc (.cells #[.slice NA p.1.length nc,.slice AA p.2.length ac] 62)):=(Below.refl _ _).alloc (Nat.le_refl _) _
 have HV2:=hdQ hv2
 obtain ⟨cs,lo,hi,g1,g2,g3,g4,g5⟩:=HR1.out.ps
 have HG1:=hdQ g1
 have HG2:=hdQ g2
 have HG3:=hdQ g3
 have HG4:=hdQ g4
 have HG5:=hdQ g5
 have HGW:=qh (Zah (w2.alloc (.cells #[.slice NA p.1.length nc,.slice AA p.2.length ac] 62)) w0.heap.size 62 2 P s.ps.length pc cs) ((Zah.step hb2 g1).alloc _)
 have hXP:X∉gOf P:=g5 X qs
 have hx1:X<w1.heap.size:=HO1.out.lt
 have hbk0:=HB1.out.size
 clear hb2 hpm g1 g2 g3 g4 g5 hv2
 go_wp2_with fail
 generalize hWG:w2.alloc (.cells #[.slice NA p.1.length nc,.slice AA p.2.length ac] 62)=wa at *
 have hza:w2.heap.size<wa.heap.size:=by rw [<- hWG];simp
 clear hWG
 have x9:wa.cell? ⟨X,9,none⟩=some (.slice P s.ps.length pc):=HO2.out.cell 9
 have f9:=HO2.out.frozen 9
 have y0:wa.cell? ⟨w2.heap.size,0,none⟩=some (.slice NA p.1.length nc):=HBX.out.cell 0
 have y1:wa.cell? ⟨w2.heap.size,1,none⟩=some (.slice AA p.2.length ac):=HBX.out.cell 1
 have hxa:=HO2.out.lt
 have hya:=HBX.out.lt
 refine Zcw (S:=(λw'=>w'.cell? ⟨X,9,none⟩=some (.slice P s.ps.length pc)/\w'.frozen? ⟨X,9,none⟩=false/\w'.cell? ⟨w2.heap.size,0,none⟩=some (.slice NA p.1.length nc)/\w'.cell? ⟨w2.heap.size,1,none⟩=some (.slice AA p.2.length ac))) 10 kr (by (try dsimp only);refine ⟨?_, ?_, ?_, ?_⟩<;>(go_simp;done)) (λhHeld=>?_)
 refine tkM 0 ?_
 refine tkM 1 ?_
 refine tkM 2 ?_
 refine tkM 3 ?_
 refine tkM 4 ?_
 refine tkM 5 ?_
 refine Zag (i:=6) rfl kr (λK6 hK6=>?_)
 go_simp
 refine hK6.out _ _ (λ_=>by (try dsimp only);refine ⟨?_, ?_, ?_, ?_⟩<;>(go_simp;done)) (λhHeld6=>?_)
 have hX6:=hHeld6 qd
 refine Zag (i:=7) rfl kr (λK7 hK7=>?_)
 (refine Zea qr _ _ 27 qr (w0.heap.size) 62 (.agg #[.slice none 0 0,.slice none 0 0]) 2 48 Tryz.underlying27 T.infoProgA rfl qd (xs:=cs) qr ?_ (ys:=[.slice NA p.1.length nc,.slice AA p.2.length ac]) qr ?_ (prog_one _ _ _ _ _ _) ?_ ?_ ?_ ?_;(exact (gwx HGW.out));(exact (ltt 1));(unfold maxLen;omega);(omega);(first|omega|(simp<;>omega));rintro P7 k7 x7 gA7)
 have hsa:=gA7.2.2.2.1
 (try simp at hsa)
 have HSR:=qh (SceneR x7 w0.heap.size [X] { s with ps:=s.ps++[p] } TX tc P7 k7 Q qc) (HR1.out.prog (by intro z hz;simp at hz;omega) HG1.out HG2.out HG3.out HG4.out HG5.out qo HBV.out HPM.out (Below.trans HV2.out bll) gA7)
 have ho2:Own x7 X 30 (cS s TX tc P pc Q qc):=(gA7.2.2.1.block X (by simp;omega) (by cases P<;>simp_all [gOf])).trans (Own.alloc (Own.drew HO2.out) _)
 have hb2:Below w0.heap.size w0 x7:=Below.trans bll gA7.2.1
 have HO2':=hdQ ho2
 have HB2':=hdQ hb2
 have k9:x7.cell? ⟨X,9,none⟩=some (.slice P s.ps.length pc):=ho2.cell 9
 have kf:=ho2.frozen 9
 have kl:=ho2.lt
 have hfar:=(Za5.far gA7 (b:=w2.heap.size) (by simp;omega) (λe=>by have:=HG1.out.lt _ e;omega)).1
 have m0:x7.cell? ⟨w2.heap.size,0,none⟩=some (.slice NA p.1.length nc):=by rw [hfar];go_simp
 have m1:x7.cell? ⟨w2.heap.size,1,none⟩=some (.slice AA p.2.length ac):=by rw [hfar];go_simp
 clear gA7 ho2 hb2 hfar
 refine hK7.out _ _ (λ_=>by (try dsimp only);refine ⟨?_, ?_, ?_, ?_⟩<;>(go_simp;done)) (λhHeld7=>?_)
 have hX7:=hHeld7 qd
 refine Zag (i:=8) rfl kr (λK8 hK8=>?_)
 go_simp
 refine hK8.out _ _ (λ_=>hX7) (λhHeld8=>?_)
 have hX8:=hHeld8 qd
 refine Zag (i:=9) rfl kr (λK9 hK9=>?_)
 go_simp
 refine hK9.out _ _ (λ_=>hX8) (λhHeld9=>?_)
 have hX9:=hHeld9 qd
 refine Zag (i:=10) rfl kr (λK10 hK10=>?_)
 go_simp
 refine hK10.out _ _ (λh=>absurd rfl h) (λhHeld10=>?_)
 refine Zcx kr ?_ _
 have hfin:Own (x7.setCell ⟨X,9,none⟩ (.slice P7 (s.ps.length+1) k7)) X 30 (cS { s with ps:=s.ps++[p] } TX tc P7 k7 Q qc):=by rw [<- cS_ps];exact HO2'.out.set_ 9 _
 have HF:=hdQ hfin
 clear hfin hX6 hX7 hX8 hX9 hHeld
 go_wp2_with fail
 go_end0
 exact ⟨rfl,⟨TX,tc,P7,k7,Q,qc,hX,HF.out,HSR.out.at_ (OnlyAt.setCell _ _ _ _)⟩,(OnlyAt.setCell _ _ _ _).below hX HB2'.out⟩
theorem I_readLine_surf {w0 w:World} {X:Nat} {s:EScene} (l:List UInt8) (hl:l.length<=1048576) (he:Env w0) (hT:ErrT w0) (hb:Below w0.heap.size w0 w) (h:Zc4 w w0.heap.size X s) (hp:s.ps.length<=1000000) (hq:s.ss.length<=1000000) (hu:(cut l [32]).1=wSurf) :
  Calls Tryz.prog 26 #[.pointer (some ⟨X,0,none⟩),str l] w λe w'=>e=.returned (.tuple #[])/\Zc4 w' w0.heap.size X ({ s with ss:=s.ss++[parSurf (splitB 32 (cut l [32]).2.1)] })/\Below w0.heap.size w0 w':=by
 have HE:=hdQ he
 have HET:=hdQ hT
 have HLN:=hdQ (Ze6 l 32)
 obtain ⟨TX,tc,P,pc,Q,qc,hX,ho,hr⟩:=h
 have HO:=hdQ ho
 have HR:=hdQ hr
 have HB:=hdQ hb
 have hzw:=hb.size
 have hxl:=ho.lt
 have HCT:=qh (CB_ Tryz.prog 69 #[str l,.string ⟨#[32]⟩] w (.tuple #[.string ⟨#[115,117,114,102,97,99,101]⟩,str (cut l [32]).2.1,.bool (cut l [32]).2.2])) (by have:=I_CutS l 32 w hl (he.step hb);rw [hu] at this;exact this)
 have HPF:=qh (∀ wx,Below w0.heap.size w0 wx->CB_ Tryz.prog 74 #[str (cut l [32]).2.1] wx (.agg ⟨Zfq (parSurf (splitB 32 (cut l [32]).2.1))⟩)) (λwx hb=>I_parseSurface _ wx (by have:=HLN.out;omega) (HE.out.step hb))
 clear hu he hT hb ho hr HLN
 generalize parSurf (splitB 32 (cut l [32]).2.1)=x at *
 generalize (cut l [32]).2.1=v at *
 generalize (cut l [32]).2.2=fd at *
 go_enter Tryz.func26,Tryz.ntmps26
 go_wp2_with fail
 refine HCT.out.mono ?_
 rintro e w1 ⟨rfl,hb1⟩
 have hz1:=hb1.size
 have HB1:=qh (Below w0.heap.size w0 w1) (Below.step hb1 HB.out hzw)
 have HO1:=qh (Own w1 X 30 (cS s TX tc P pc Q qc)) (Own.step hb1 HO.out)
 have HR1:=qh (SceneR w1 w0.heap.size [X] s TX tc P pc Q qc) (HR.out.step hb1)
 clear hb1 HO HR
 go_wp2_with fail
 have x10:w1.cell? ⟨X,10,none⟩=some (.slice Q s.ss.length qc):=HO1.out.cell 10
 have f10:=HO1.out.frozen 10
 have hx1:=HO1.out.lt
 refine Zcw (S:=(λw'=>w'.cell? ⟨X,10,none⟩=some (.slice Q s.ss.length qc)/\w'.frozen? ⟨X,10,none⟩=false)) 11 kr (by (try dsimp only);refine ⟨?_, ?_⟩<;>(go_simp;done)) (λhHeld=>?_)
 refine tkM 0 ?_
 refine tkM 1 ?_
 refine tkM 2 ?_
 refine tkM 3 ?_
 refine tkM 4 ?_
 refine tkM 5 ?_
 refine Zag (i:=6) rfl kr (λK6 hK6=>?_)
 go_simp
 (go_at_call 74;(with_reducible refine (HPF.out _ bll).mono ?_);rintro e w2 ⟨rfl,hb2⟩)
 have hz2:=hb2.size
 (try simp at hz2)
 have HO2:=qh (Own w2 X 30 (cS s TX tc P pc Q qc)) (Own.step hb2 (owx HO1.out))
 have HB2:=bh w0 hb2
 have hr1:SceneR w1.drew w0.heap.size [X] s TX tc P pc Q qc:=HR1.out.step bll
 have HR2:=qh (SceneR w2 w0.heap.size [X] s TX tc P pc Q qc) (hr1.step hb2)
 have z10:w2.cell? ⟨X,10,none⟩=some (.slice Q s.ss.length qc):=HO2.out.cell 10
 have zf10:=HO2.out.frozen 10
 have hx2:=HO2.out.lt
 clear hb2 hr1
 try go_wp2_with fail
 refine hK6.out _ _ (λ_=>(by (try dsimp only);refine ⟨?_, ?_⟩<;>(go_simp;done))) (λhHeld6=>?_)
 have hX6:=hHeld6 qd
 refine Zag (i:=7) rfl kr (λK7 hK7=>?_)
 refine step_oneE rfl _ _ rfl rfl (one_surf x _) ?_
 refine hK7.out _ _ (λ_=>(by (try dsimp only);refine ⟨?_, ?_⟩<;>(go_simp;done))) (λhHeld7=>?_)
 have hX7:=hHeld7 qd
 refine Zag (i:=8) rfl kr (λK8 hK8=>?_)
 (refine Zea qr _ _ 28 qr (w0.heap.size) 45 (.agg ⟨z26⟩) 26 208 Tryz.underlying28 T.infoSurf3 rfl qd (xs:=rSurf s.ss) qr ?_ (ys:=Zfq x) qr ?_ (eSurf_one _) ?_ ?_ ?_ ?_;(exact (gwx HR2.out.ss));(exact (ltt 1));(unfold maxLen;omega);(omega);(first|omega|(simp<;>omega));rintro P7 k7 x7 gA7)
 have hsa:=gA7.2.2.2.1
 (try simp at hsa)
 have HSR:=qh (SceneR x7 w0.heap.size [X] { s with ss:=s.ss++[x] } TX tc P pc P7 k7) ((HR2.out.step bll).surf (by intro z hz;simp at hz;subst hz;first|omega|(simp<;>omega)) gA7)
 have hXQ:X∉gOf Q:=λq=>HR2.out.ssz X q qs
 have ho2:Own x7 X 30 (cS s TX tc P pc Q qc):=(gA7.2.2.1.block X (by simp;omega) (by cases Q<;>simp_all [gOf])).trans (Own.alloc HO2.out _)
 have hb2:Below w0.heap.size w0 x7:=Below.trans bll gA7.2.1
 have HO2':=hdQ ho2
 have HB2':=hdQ hb2
 have k10:x7.cell? ⟨X,10,none⟩=some (.slice Q s.ss.length qc):=ho2.cell 10
 have kf:=ho2.frozen 10
 have kl:=ho2.lt
 clear gA7 ho2 hb2
 refine hK8.out _ _ (λ_=>(by (try dsimp only);refine ⟨?_, ?_⟩<;>(go_simp;done))) (λhHeld8=>?_)
 have hX8:=hHeld8 qd
 refine Zag (i:=9) rfl kr (λK9 hK9=>?_)
 go_simp
 refine hK9.out _ _ (λ_=>hX8) (λhHeld9=>?_)
 have hX9:=hHeld9 qd
 refine Zag (i:=10) rfl kr (λK10 hK10=>?_)
 go_simp
 refine hK10.out _ _ (λ_=>hX9) (λhHeld10=>?_)
 have hX10:=hHeld10 qd
 refine Zag (i:=11) rfl kr (λK11 hK11=>?_)
 go_simp
 refine hK11.out _ _ (λh=>absurd rfl h) (λhHeld11=>?_)
 refine Zcx kr ?_ _
 have hfin:Own (x7.setCell ⟨X,10,none⟩ (.slice P7 (s.ss.length+1) k7)) X 30 (cS { s with ss:=s.ss++[x] } TX tc P pc P7 k7):=by rw [<- cS_ss];exact HO2'.out.set_ 10 _
 have HF:=hdQ hfin
 clear hfin hX6 hX7 hX8 hX9 hX10 hHeld
 go_wp2_with fail
 go_end0
 exact ⟨rfl,⟨TX,tc,P,pc,P7,k7,hX,HF.out,HSR.out.at_ (OnlyAt.setCell _ _ _ _)⟩,(OnlyAt.setCell _ _ _ _).below hX HB2'.out⟩
theorem I_readLine {w0 w:World} {X:Nat} {s:EScene} (l:List UInt8) (hl:l.length<=1048576) (he:Env w0) (hT:ErrT w0) (hb:Below w0.heap.size w0 w) (h:Zc4 w w0.heap.size X s) (hp:s.ps.length<=1000000) (hq:s.ss.length<=1000000) :
  Calls Tryz.prog 26 #[.pointer (some ⟨X,0,none⟩),str l] w λe w'=>e=.returned (.tuple #[])/\Zc4 w' w0.heap.size X (updI s l)/\Below w0.heap.size w0 w':=by
 unfold updI
 dsimp only
 split
 ·exact I_readLine_cam l hl he hT hb h hp hq ‹_›
 split
 ·exact I_readLine_tex l hl he hT hb h hp hq ‹_›
 split
 ·exact I_readLine_side l hl he hT hb h hp hq ‹_›
 split
 ·exact I_readLine_shad l hl he hT hb h hp hq ‹_›
 split
 ·exact I_readLine_surf l hl he hT hb h hp hq ‹_›
 ·exact I_readLine_no l hl he hT hb h hp hq ‹_› ‹_› ‹_› ‹_› ‹_›
theorem linesT_end {l z:List UInt8} {q:List (List UInt8)} (h:splitB 10 l=q++[z]):linesT l=if z=[] then q else q++[z]:=by
 unfold linesT
 rw [h]
 simp
theorem RS.head {w:World} {A:Option Addr} {n m c:Nat} {xs:List Value} (h:RS w 1 A n c xs) (hm:m<=n):RS w 1 A m c (xs.take m):=by
 obtain ⟨hl,A0,c0,hv,hn,hc,h0⟩:=h
 simp only [Value.slice.injEq] at hv
 obtain ⟨rfl,_,rfl⟩:=hv
 refine ⟨by rw [List.length_take];omega,A,c,rfl,qo,hc,λhp=>?_⟩
 obtain ⟨b,o,hA,h1,h2,h3⟩:=h0 qo
 exact ⟨b,o,hA,h1,h2,λj hj=>by rw [h3 j qo,List.getElem?_take_of_lt qo]⟩
theorem S_SplitLines (l:List UInt8) (w:World) (hlim:l.length<=1048576) :
  Calls Tryz.prog 16 #[str l] w (Zc1 (linesT l) w):=by
 obtain ⟨ps,hps⟩:=qv (splitB 10 l)
 have hpos:=Zb1 10 l
 have hlen:=Zbe 10 l
 have HSA:=qh (∀ wx,Calls Tryz.prog 17 #[str l,.string ⟨#[10]⟩] wx (Zc1 ps wx)) (λwx=>by have:=S_SplitAny 10 l wx hlim;rwa [hps] at this)
 obtain ⟨q,z,hqz⟩:∃ q z,ps=q++[z]:=by
  rw [hps] at hpos
  refine ⟨ps.dropLast,ps.getLast (by rintro rfl;cases hpos),(List.dropLast_concat_getLast _).symm⟩
 have hL:=linesT_end (hps.trans hqz)
 have HL:=hdQ hL
 have hpl:ps.length=q.length+1:=by rw [hqz];simp
 have hql:q.length<=1048576:=by rw [hps] at hlen;omega
 clear hpos hlen hps hL
 go_enter Tryz.func16,Tryz.ntmps16
 go_wp2_with fail
 refine (HSA.out _).mono ?_
 rintro e w1 ⟨P,pc,rfl,hrs,hpg,hb⟩
 rw [hpl]
 rw [hpl] at hrs
 have HRS:=hdQ hrs
 have HPG:=hdQ hpg
 have HB:=hdQ hb
 obtain ⟨b,off,rfl,hbh,hcell⟩:=hrs.open_.2.2 qo
 have c1:w1.cell? ⟨b,off+q.length,none⟩=some (str z):=by rw [hcell q.length qo,hqz];simp
 have hw1:IntKind.i64.wrap (((q.length+1:Nat):Int)-1)=q.length:=by rw [show ((q.length+1:Nat):Int)-1=q.length by omega];exact IntWalk.i64_in _ qo
 have hw2:IntKind.i64.wrap ((q.length:Int)+1-1)=q.length:=by rw [show (q.length:Int)+1-1=q.length by omega];exact IntWalk.i64_in _ qo
 have i2:(q.length:Int)<(q.length:Int)+1:=qo
 have hpc:=hrs.open_.1
 clear hcell hrs hpg hb hpl HSA
 by_cases hz:z=[]
 ·have HL2:=qh (linesT l=q) (by rw [HL.out,if_pos hz])
  have HR2:=qh (RS w1 1 (some ⟨b,off,none⟩) q.length pc (Zam q)) (by have:=RS.head HRS.out (m:=q.length) qo;rw [hqz] at this;simpa using this)
  subst hz
  go_wp2_with fail
  go_ret
  rw [HL2.out]
  exact ⟨_,_,rfl,HR2.out,HPG.out,HB.out⟩
 ·have HL2:=qh (linesT l=q++[z]) (by rw [HL.out,if_neg hz])
  have hzb:z.isEmpty=false:=by cases z with|nil=>exact absurd rfl hz|cons=>rfl
  go_wp2_with fail
  go_ret
  rw [HL2.out]
  have hql2:(q++[z]).length=q.length+1:=qs
  exact ⟨_,_,by rw [hql2];rfl,by rw [hql2,<- hqz];exact HRS.out,HPG.out,HB.out⟩
theorem I_SplitLines (l:List UInt8) (w:World) (hlim:l.length<=1048576) :
  Calls Tryz.prog 25 #[str l] w (Zc1 (linesT l) w):=by
 obtain ⟨ps,hps⟩:=qv (splitB 10 l)
 have hpos:=Zb1 10 l
 have hlen:=Zbe 10 l
 have HSA:=qh (∀ wx,Calls Tryz.prog 68 #[str l,.string ⟨#[10]⟩] wx (Zc1 ps wx)) (λwx=>by have:=Zfu 10 l wx hlim;rwa [hps] at this)
 obtain ⟨q,z,hqz⟩:∃ q z,ps=q++[z]:=by
  rw [hps] at hpos
  refine ⟨ps.dropLast,ps.getLast (by rintro rfl;cases hpos),(List.dropLast_concat_getLast _).symm⟩
 have hL:=linesT_end (hps.trans hqz)
 have HL:=hdQ hL
 have hpl:ps.length=q.length+1:=by rw [hqz];simp
 have hql:q.length<=1048576:=by rw [hps] at hlen;omega
 clear hpos hlen hps hL
 go_enter Tryz.func25,Tryz.ntmps25
 go_wp2_with fail
 refine (HSA.out _).mono ?_
 rintro e w1 ⟨P,pc,rfl,hrs,hpg,hb⟩
 rw [hpl]
 rw [hpl] at hrs
 have HRS:=hdQ hrs
 have HPG:=hdQ hpg
 have HB:=hdQ hb
 obtain ⟨b,off,rfl,hbh,hcell⟩:=hrs.open_.2.2 qo
 have c1:w1.cell? ⟨b,off+q.length,none⟩=some (str z):=by rw [hcell q.length qo,hqz];simp
 have hw1:IntKind.i64.wrap (((q.length+1:Nat):Int)-1)=q.length:=by rw [show ((q.length+1:Nat):Int)-1=q.length by omega];exact IntWalk.i64_in _ qo
 have hw2:IntKind.i64.wrap ((q.length:Int)+1-1)=q.length:=by rw [show (q.length:Int)+1-1=q.length by omega];exact IntWalk.i64_in _ qo
 have i2:(q.length:Int)<(q.length:Int)+1:=qo
 have hpc:=hrs.open_.1
 clear hcell hrs hpg hb hpl HSA
 by_cases hz:z=[]
 ·have HL2:=qh (linesT l=q) (by rw [HL.out,if_pos hz])
  have HR2:=qh (RS w1 1 (some ⟨b,off,none⟩) q.length pc (Zam q)) (by have:=RS.head HRS.out (m:=q.length) qo;rw [hqz] at this;simpa using this)
  subst hz
  go_wp2_with fail
  go_ret
  rw [HL2.out]
  exact ⟨_,_,rfl,HR2.out,HPG.out,HB.out⟩
 ·have HL2:=qh (linesT l=q++[z]) (by rw [HL.out,if_neg hz])
  have hzb:z.isEmpty=false:=by cases z with|nil=>exact absurd rfl hz|cons=>rfl
  go_wp2_with fail
  go_ret
  rw [HL2.out]
  have hql2:(q++[z]).length=q.length+1:=qs
  exact ⟨_,_,by rw [hql2];rfl,by rw [hql2,<- hqz];exact HRS.out,HPG.out,HB.out⟩
theorem byte_cases (x:UInt8) (k:Nat):((97:Int)<=x.toNat/\(x.toNat:Int)<=122)∨((x.toNat:Int)<97/\k=0)∨((x.toNat:Int)<97/\0<k/\(x.toNat:Int)<48)∨((x.toNat:Int)<97/\0<k/\(57:Int)<x.toNat)∨((x.toNat:Int)<97/\0<k/\(48:Int)<=x.toNat/\(x.toNat:Int)<=57)∨((122:Int)<x.toNat/\k=0)∨((122:Int)<x.toNat/\0<k):=qo
theorem id_yes {l:List UInt8} {k:Nat} (h:k<l.length) (hi:Zer l k=true) (hx:(97<=l[k].toNat/\l[k].toNat<=122)∨(0<k/\48<=l[k].toNat/\l[k].toNat<=57)):Zer l (k+1)=true:=by
 rw [identTo_succ h,hi]
 unfold letterB digitB
 rcases hx with hx|⟨h1,h2⟩
 ·simp [hx]
 ·simp [h2];omega
theorem id_no {l:List UInt8} {k:Nat} (h:k<l.length) (h1:¬ (97<=l[k].toNat/\l[k].toNat<=122)) (h2:¬ (0<k/\48<=l[k].toNat/\l[k].toNat<=57)):Za9 l=false:=by
 refine isIdent_no h ?_
 unfold letterB digitB
 simp only [Bool.or_eq_false_iff,Bool.and_eq_false_iff,decide_eq_false_iff_not]
 refine ⟨h1, ?_⟩
 by_cases hk:k=0
 ·right;simpa using hk
 ·left;intro h3;exact h2 ⟨qo,h3⟩
theorem id_end {l:List UInt8} (h:Zer l l.length=true):Za9 l=decide (1<=l.length/\l.length<=8):=by unfold Za9;rw [h];rfl
theorem Zfh {l:List UInt8} (w:World) (hl:l.length<=maxLen) :
  Calls Tryz.prog 183 #[str l] w λe w'=>e=.returned (.bool (Za9 l))/\w=w':=by
 unfold maxLen at hl
 go_enter Tryz.func183,Tryz.ntmps183
 go_wp2_with fail
 go_loop [3] (λi=>∃ k:Nat,k<=l.length/\i=.int .i64 k/\Zer l k=true) (λi=>l.length-(RowKit.intOf i).toNat)
 case atStart=>exact ⟨0,Nat.zero_le _,rfl,rfl⟩
 case round =>
  obtain ⟨k,hk,rfl,hi⟩:=hrel
  have HI:=hdQ hi
  clear hi
  by_cases hlt:k<l.length
  ·obtain ⟨x,hx⟩:=qv (l[k])
   have hat:∀ hh:k<ByteArray.size ⟨l.toArray⟩,({ data:=l.toArray }:ByteArray)[k]'hh=x:=λhh=>hx
   have HX:=hdQ hx
   have i2:(k:Int)<l.length:=qo
   clear hx
   rcases byte_cases x k with ⟨h1,h2⟩|⟨h1,rfl⟩|⟨h1,h2,h3⟩|⟨h1,h2,h3⟩|⟨h1,h2,h3,h4⟩|⟨h1,rfl⟩|⟨h1,h2⟩
   ·go_wp2_with fail
    go_round
    case rel=>exact ⟨k+1,qo,qg,id_yes hlt HI.out (by rw [HX.out];omega)⟩
    case measure=>exact qn
   ·have n1:¬ (97:Int)<=x.toNat:=by omega
    go_wp2_with fail
    go_ret
    exact ⟨Zad (id_no hlt (by rw [HX.out];omega) qo).symm,rfl⟩
   ·have n1:¬ (97:Int)<=x.toNat:=by omega
    have k0:¬ (k:Int)=0:=qo
    go_wp2_with fail
    go_ret
    exact ⟨Zad (id_no hlt (by rw [HX.out];omega) (by rw [HX.out];omega)).symm,rfl⟩
   ·have n1:¬ (97:Int)<=x.toNat:=by omega
    have n2:¬ (x.toNat:Int)<48:=qo
    have k0:¬ (k:Int)=0:=qo
    go_wp2_with fail
    go_ret
    exact ⟨Zad (id_no hlt (by rw [HX.out];omega) (by rw [HX.out];omega)).symm,rfl⟩
   ·have n1:¬ (97:Int)<=x.toNat:=by omega
    have n2:¬ (x.toNat:Int)<48:=qo
    have n3:¬ (57:Int)<x.toNat:=qo
    have k0:¬ (k:Int)=0:=qo
    go_wp2_with fail
    go_round
    case rel=>exact ⟨k+1,qo,qg,id_yes hlt HI.out (by rw [HX.out];omega)⟩
    case measure=>exact qn
   ·have n1:(97:Int)<=x.toNat:=by omega
    have n2:¬ (x.toNat:Int)<=122:=qo
    go_wp2_with fail
    go_ret
    exact ⟨Zad (id_no hlt (by rw [HX.out];omega) qo).symm,rfl⟩
   ·have n1:(97:Int)<=x.toNat:=by omega
    have n2:¬ (x.toNat:Int)<=122:=qo
    have n3:¬ (x.toNat:Int)<48:=qo
    have n4:(57:Int)<x.toNat:=qo
    have k0:¬ (k:Int)=0:=qo
    go_wp2_with fail
    go_ret
    exact ⟨Zad (id_no hlt (by rw [HX.out];omega) (by rw [HX.out];omega)).symm,rfl⟩
  ·obtain rfl:k=l.length:=by omega
   have HE:=hdQ (id_end HI.out)
   go_wp2_with (first|(go_at_call 119;refine (S_in _ _ _ _).mono ?_;rintro e w' ⟨rfl,rfl⟩)|fail)
   go_ret
   exact ⟨Zad (by rw [HE.out];unfold inB;rw [Bool.eq_iff_iff];simp;omega),rfl⟩
theorem Zdw (w:World) (s:ByteArray) (p:Nat):Below w.heap.size w (w.iter s p):=(Below.refl _ _).alloc (Nat.le_refl _) _
theorem I_IsIdentifier {l:List UInt8} (w:World) (hl:l.length<=maxLen) :
  Calls Tryz.prog 154 #[str l] w λe w'=>e=.returned (.bool (Za9 l))/\Below w.heap.size w w':=by
 unfold maxLen at hl
 go_enter Tryz.func154,Tryz.ntmps154
 go_wp2_with fail
 go_loopw [2] (λr wr=>∃ k:Nat,k<=l.length/\wr=w.iter ⟨l.toArray⟩ k/\Zer l k=true) (λ_ wr=>l.length-wr.iterPos w.heap.size)
 case atStart=>exact ⟨0,Nat.zero_le _,rfl,rfl⟩
 case round =>
  obtain ⟨k,hk,rfl,hi⟩:=hrel
  have HI:=hdQ hi
  clear hi
  by_cases hlt:k<l.length
  ·obtain ⟨x,hx⟩:=qv (l[k])
   have hlt':k<ByteArray.size ⟨l.toArray⟩:=hlt
   have hat:({ data:=l.toArray }:ByteArray)[k]'hlt'=x:=hx
   have HX:=hdQ hx
   have i2:(k:Int)<l.length:=qo
   by_cases h128:x.toNat<128
   ·have hnx:∀ ty,(Instr.next (.pointer (some ⟨w.heap.size,0,none⟩)) true ty).run Tryz.prog (w.iter ⟨l.toArray⟩ k)=.ok (.tuple #[.bool true,.int .i64 k,.int .i32 x.toNat]) (w.iter ⟨l.toArray⟩ (k+1)):=λty=>by
     rw [run_next_ascii w ⟨l.toArray⟩ k ty hlt' (by rw [hat];exact h128),hat]
    clear hx hat hlt'
    rcases byte_cases x k with ⟨h1,h2⟩|⟨h1,rfl⟩|⟨h1,h2,h3⟩|⟨h1,h2,h3⟩|⟨h1,h2,h3,h4⟩|⟨h1,rfl⟩|⟨h1,h2⟩
    ·go_wp2_with fail
     all_goals
      go_roundw
      case rel=>exact ⟨k+1,qo,rfl,id_yes hlt HI.out (by rw [HX.out];omega)⟩
      case measure=>simp;omega
    ·have n1:¬ (97:Int)<=x.toNat:=by omega
     go_wp2_with fail
     all_goals
      go_ret
      exact ⟨Zad (id_no hlt (by rw [HX.out];omega) qo).symm,Zdw _ _ _⟩
    ·have n1:¬ (97:Int)<=x.toNat:=by omega
     have n2:¬ (48:Int)<=x.toNat:=qo
     have k0:¬ (k:Int)=0:=qo
     go_wp2_with fail
     all_goals
      go_ret
      exact ⟨Zad (id_no hlt (by rw [HX.out];omega) (by rw [HX.out];omega)).symm,Zdw _ _ _⟩
    ·have n1:¬ (97:Int)<=x.toNat:=by omega
     have n2:(48:Int)<=x.toNat:=qo
     have n3:¬ (x.toNat:Int)<=57:=qo
     have k0:¬ (k:Int)=0:=qo
     go_wp2_with fail
     all_goals
      go_ret
      exact ⟨Zad (id_no hlt (by rw [HX.out];omega) (by rw [HX.out];omega)).symm,Zdw _ _ _⟩
    ·have n1:¬ (97:Int)<=x.toNat:=by omega
     have k0:¬ (k:Int)=0:=qo
     go_wp2_with fail
     all_goals
      go_roundw
      case rel=>exact ⟨k+1,qo,rfl,id_yes hlt HI.out (by rw [HX.out];omega)⟩
      case measure=>simp;omega
    ·have n1:(97:Int)<=x.toNat:=by omega
     have n2:¬ (x.toNat:Int)<=122:=qo
     have n3:(48:Int)<=x.toNat:=qo
     have n4:¬ (x.toNat:Int)<=57:=qo
     go_wp2_with fail
     all_goals
      go_ret
      exact ⟨Zad (id_no hlt (by rw [HX.out];omega) qo).symm,Zdw _ _ _⟩
    ·have n1:(97:Int)<=x.toNat:=by omega
     have n2:¬ (x.toNat:Int)<=122:=qo
     have n3:(48:Int)<=x.toNat:=qo
     have n4:¬ (x.toNat:Int)<=57:=qo
     have k0:¬ (k:Int)=0:=qo
     go_wp2_with fail
     all_goals
      go_ret
      exact ⟨Zad (id_no hlt (by rw [HX.out];omega) (by rw [HX.out];omega)).symm,Zdw _ _ _⟩
   ·obtain ⟨d1,d2⟩:=decode_high ⟨l.toArray⟩ k hlt' (by rw [hat];omega)
    obtain ⟨r,hr⟩:=qv ((Utf8.decode ⟨l.toArray⟩ k).1)
    obtain ⟨q,hq⟩:=qv ((Utf8.decode ⟨l.toArray⟩ k).2)
    have hnx:∀ ty,(Instr.next (.pointer (some ⟨w.heap.size,0,none⟩)) true ty).run Tryz.prog (w.iter ⟨l.toArray⟩ k)=.ok (.tuple #[.bool true,.int .i64 k,.int .i32 r]) (w.iter ⟨l.toArray⟩ (k+q)):=λty=>by
     rw [run_next_any w ⟨l.toArray⟩ k ty hlt',hr,hq]
    rw [hr] at d1
    clear hx hat hlt' hr hq d2
    have HN:=hdQ (id_no hlt (by rw [HX.out];omega) (by rw [HX.out];omega))
    have n1:(97:Int)<=r:=qo
    have n2:¬ (r:Int)<=122:=qo
    have n3:(48:Int)<=r:=qo
    have n4:¬ (r:Int)<=57:=qo
    go_wp2_with fail
    all_goals
     go_ret
     exact ⟨Zad HN.out.symm,Zdw _ _ _⟩
  ·have hnx:∀ ty,(Instr.next (.pointer (some ⟨w.heap.size,0,none⟩)) true ty).run Tryz.prog (w.iter ⟨l.toArray⟩ k)=.ok (.tuple #[.bool false]) (w.iter ⟨l.toArray⟩ k):=λty=>run_next_end w ⟨l.toArray⟩ k ty hlt
   obtain rfl:k=l.length:=qo
   have HE:=hdQ (id_end HI.out)
   go_wp2_with fail
   all_goals
    go_ret
    exact ⟨Zad (by rw [HE.out];rw [Bool.eq_iff_iff];simp;omega),Zdw _ _ _⟩
theorem op_cases (op:Int):op=1∨op=2∨op=8∨op=3∨op=4∨op=5∨op=6∨op=7∨(op<1∨8<op):=qo
theorem emp_cases (l:List UInt8):(l=[]/\l.isEmpty=true)∨(l≠[]/\l.isEmpty=false):=by cases l<;>simp
theorem fld (op:Int) (name:List UInt8) (num:Int) (l:List Int):Zdc (op,name,num,l)=((if Zbi op then Za9 name else decide (name=[]))&&(if op=1 then inB num 0 2559999 else decide (num=0))&&Zbh op l.length):=rfl
theorem sh1 (n:Nat):Zbh 1 n=decide (n=0):=by simp [Zbh]
theorem sh2 (n:Nat):Zbh 2 n=decide (n=0):=by simp [Zbh]
theorem sh3 (n:Nat):Zbh 3 n=decide (n=1):=by simp [Zbh]
theorem sh4 (n:Nat):Zbh 4 n=decide (n=2):=by simp [Zbh]
theorem sh5 (n:Nat):Zbh 5 n=decide (n=2):=by simp [Zbh]
theorem sh6 (n:Nat):Zbh 6 n=decide (n=2):=by simp [Zbh]
theorem sh7 (n:Nat):Zbh 7 n=decide (n=2):=by simp [Zbh]
theorem sh8 (n:Nat):Zbh 8 n=decide (n<=3):=by simp [Zbh]
theorem sh9 {op:Int} (h:op<1∨8<op) (n:Nat):Zbh op n=false:=by
 unfold Zbh
 rw [if_neg qo,if_neg qo,if_neg qo,if_neg qo]
theorem nm9 {op:Int} (h:op<1∨8<op):Zbi op=false:=by unfold Zbi;simp;omega
theorem beq_cast (a b:Nat):((a:Int)==(b:Int))=decide (a=b):=by rw [Bool.eq_iff_iff];simp;omega
theorem Ze3 {n:Nat} (m:Nat):decide (n=m)=((n:Int)==(m:Int)):=(beq_cast n m).symm
theorem len_le {n:Nat} (m:Nat):decide (n<=m)=decide ((n:Int)<=(m:Int)):=by rw [Bool.eq_iff_iff];simp
theorem Zfn (k:Nat) (op:Int) (name:List UInt8) (num:Int) (l:List Int):Zdb k (op,name,num,l)=(Zdc (op,name,num,l)&&argsOk k l):=rfl
theorem argsOk_all {k:Nat} {l:List Int}:argsOk k l=allIn l 0 ((k:Int)-1):=rfl
abbrev vNode (op:Int) (name:List UInt8) (num:Int) (A:Option Addr) (n c:Nat):Value:=.agg #[.int .i64 op,str name,.int .i64 num,.slice A n c]
theorem S_l13Node {op:Int} {name:List UInt8} {num:Int} {A:Option Addr} {c:Nat} {l:List Int} {k:Nat} (w:World) (hk:k<=1048576) (hs:name.length<=maxLen) (h:RS w 1 A l.length c (ints l)) :
  Calls Tryz.prog 182 #[vNode op name num A l.length c,.int .i64 k] w λe w'=>e=.returned (.bool (Zdb k (op,name,num,l)))/\Below w.heap.size w w':=by
 have H0:=hdQ h
 have HS:=hdQ hs
 have hll:=h.len
 unfold maxLen at hll
 clear h hs
 have hk1:IntKind.i64.wrap ((k:Int)-1)=(k:Int)-1:=IntWalk.i64_in _ qo
 have HB0:=qh (Below w.heap.size w (w.alloc (.cells #[.int .i64 op,str name,.int .i64 num,.slice A l.length c] 155))) bll
 go_enter Tryz.func182,Tryz.ntmps182
 go_wp2_with fail
 go_loop [6,11] (λ_ i=>∃ j:Nat,j<=l.length/\i=.int .i64 j/\allIn (l.take j) 0 ((k:Int)-1)=true) (λ_ i=>l.length-(RowKit.intOf i).toNat)
 case atStart=>exact ⟨0,Nat.zero_le _,rfl,rfl⟩
 case round =>
  obtain ⟨j,hj,rfl,ht⟩:=hrel
  have HT:=hdQ ht
  clear ht
  by_cases hlt:j<l.length
  ·obtain ⟨b,o,rfl,hbh,hcell⟩:=H0.out.open_.2.2 qo
   have c1:w.cell? ⟨b,o+j,none⟩=some (.int .i64 l[j]):=by rw [hcell j qo,Zdf hlt]
   have nb:¬ b=w.heap.size:=qo
   have i2:(j:Int)<l.length:=qo
   clear hcell
   cases hin:inB l[j] 0 ((k:Int)-1) with
   | true =>
    have HK:=hdQ (allIn_take HT.out hlt hin)
    generalize hx:l[j]=x at *
    go_wp2_with (first|(go_at_call 119;refine (Zca hin _).mono ?_;rintro e w' ⟨rfl,rfl⟩)|fail)
    go_round
    case rel=>exact ⟨j+1,qo,qg,HK.out⟩
    case measure=>exact qn
   | false =>
    have HF:=qh (Zdb k (op,name,num,l)=false) (by rw [Zfn,argsOk_all,allIn_false hlt hin];simp)
    generalize hx:l[j]=x at *
    go_wp2_with (first|(go_at_call 119;refine (Zca hin _).mono ?_;rintro e w' ⟨rfl,rfl⟩)|fail)
    go_ret
    exact ⟨Zad HF.out.symm,HB0.out⟩
  ·obtain rfl:j=l.length:=by omega
   have HA:=qh (Zdb k (op,name,num,l)=Zdc (op,name,num,l)) (by rw [Zfn,argsOk_all];have:=HT.out;rw [List.take_length] at this;rw [this];simp)
   have hlt':¬ (l.length:Int)<l.length:=qo
   clear HT hk1 hj hlt
   rcases op_cases op with rfl|rfl|rfl|rfl|rfl|rfl|rfl|rfl|h9
   (rcases emp_cases name with ⟨rfl,hem⟩|⟨hne,hem⟩<;>cases hn:inB num 0 2559999<;>have HIN:=hdQ (Zca hn));rotate_left 4
   (cases hq:Za9 name<;>(have HQ:=(λwx=>Zfh (l:=name) wx HS.out);rw [hq] at HQ;replace HQ:=hdQ HQ)<;>by_cases hn:num=0);rotate_left 4
   (cases hq:Za9 name<;>(have HQ:=(λwx=>Zfh (l:=name) wx HS.out);rw [hq] at HQ;replace HQ:=hdQ HQ)<;>by_cases hn:num=0);rotate_left 4
   (rcases emp_cases name with ⟨rfl,hem⟩|⟨hne,hem⟩<;>by_cases hn:num=0);rotate_left 4
   have HIN:=hdQ (Zca (show inB 4 4 7=true from rfl));(rcases emp_cases name with ⟨rfl,hem⟩|⟨hne,hem⟩<;>by_cases hn:num=0);rotate_left 4
   have HIN:=hdQ (Zca (show inB 5 4 7=true from rfl));(rcases emp_cases name with ⟨rfl,hem⟩|⟨hne,hem⟩<;>by_cases hn:num=0);rotate_left 4
   have HIN:=hdQ (Zca (show inB 6 4 7=true from rfl));(rcases emp_cases name with ⟨rfl,hem⟩|⟨hne,hem⟩<;>by_cases hn:num=0);rotate_left 4
   have HIN:=hdQ (Zca (show inB 7 4 7=true from rfl));(rcases emp_cases name with ⟨rfl,hem⟩|⟨hne,hem⟩<;>by_cases hn:num=0);rotate_left 4
   have e1:(op==1)=false:=(by simp;omega);have e2:(op==2)=false:=(by simp;omega);have e3:(op==3)=false:=(by simp;omega);have e4:(op==4)=false:=(by simp;omega);have e5:(op==5)=false:=(by simp;omega);have e6:(op==6)=false:=(by simp;omega);have e7:(op==7)=false:=(by simp;omega);have e8:(op==8)=false:=(by simp;omega);have f1:¬ op=1:=qo;have hf:inB op 4 7=false:=(by unfold inB;simp;omega);have n9:=nm9 h9;have s9:=sh9 h9 l.length;have HIN:=hdQ (Zca hf);rcases emp_cases name with ⟨rfl,hem⟩|⟨hne,hem⟩<;>by_cases hn:num=0
   all_goals (first|subst hn|(have hnb:(num==0)=false:=(by simpa using hn))|skip)
   all_goals
    go_wp2_with ((first|(go_at_call 119;refine (HIN.out _).mono ?_;rintro e w' ⟨rfl,rfl⟩)|(go_at_call 183;refine (HQ.out _).mono ?_;rintro e w' ⟨rfl,rfl⟩)|fail))
    iterate 2 (try (go_quiet ((first|(go_at_call 119;exact Zap (HIN.out _))|(go_at_call 183;exact Zap (HQ.out _))|fail));go_wp2_with ((first|(go_at_call 119;refine (HIN.out _).mono ?_;rintro e w' ⟨rfl,rfl⟩)|(go_at_call 183;refine (HQ.out _).mono ?_;rintro e w' ⟨rfl,rfl⟩)|fail))))
    go_ret
    exact ⟨Zad (by rw [HA.out,fld];first|(simp [Zbi,hne];done)|(simp [n9,hne];done)|(simp [Zbi,hq];done)|(simp [Zbi,hn];done)|(simp [n9,hn,f1];done)|(rw [sh1,Ze3 0];simp [Zbi,hn];done)|(rw [sh2,Ze3 0];simp [Zbi,hq];done)|(rw [sh8,len_le 3];simp [Zbi,hq];done)|(rw [sh3,Ze3 1];simp [Zbi];done)|(rw [sh4,Ze3 2];simp [Zbi];done)|(rw [sh5,Ze3 2];simp [Zbi];done)|(rw [sh6,Ze3 2];simp [Zbi];done)|(rw [sh7,Ze3 2];simp [Zbi];done)|(simp [n9,s9];done)|(simp [n9,s9,f1];done)),bll⟩
theorem ident_ne {l:List UInt8} (h:Za9 l=true):l≠[]:=by
 intro e;subst e;exact absurd h qd
theorem I_validNode {op:Int} {name:List UInt8} {num:Int} {A:Option Addr} {c:Nat} {l:List Int} (w:World) (hs:name.length<=maxLen) (h:RS w 1 A l.length c (ints l)) :
  Calls Tryz.prog 153 #[vNode op name num A l.length c] w λe w'=>e=.returned (.bool (Zdc (op,name,num,l)))/\Below w.heap.size w w':=by
 have HI:=qh (∀ wx,CB_ Tryz.prog 154 #[str name] wx (.bool (Za9 name))) (λwx=>I_IsIdentifier (l:=name) wx hs)
 have hll:=h.len
 unfold maxLen at hll
 clear h hs
 have HB0:=qh (Below w.heap.size w (w.alloc (.cells #[.int .i64 op,str name,.int .i64 num,.slice A l.length c] 155))) bll
 rcases op_cases op with rfl|rfl|rfl|rfl|rfl|rfl|rfl|rfl|h9
 (cases hq:Za9 name<;>rcases emp_cases name with ⟨rfl,hem⟩|⟨hne,hem⟩<;>cases hn:inB num 0 2559999);rotate_left 8
 (cases hq:Za9 name<;>by_cases hn:num=0);rotate_left 4
 (cases hq:Za9 name<;>by_cases hn:num=0);rotate_left 4
 (cases hq:Za9 name<;>rcases emp_cases name with ⟨rfl,hem⟩|⟨hne,hem⟩<;>by_cases hn:num=0);rotate_left 8
 (cases hq:Za9 name<;>rcases emp_cases name with ⟨rfl,hem⟩|⟨hne,hem⟩<;>by_cases hn:num=0);rotate_left 8
 (cases hq:Za9 name<;>rcases emp_cases name with ⟨rfl,hem⟩|⟨hne,hem⟩<;>by_cases hn:num=0);rotate_left 8
 (cases hq:Za9 name<;>rcases emp_cases name with ⟨rfl,hem⟩|⟨hne,hem⟩<;>by_cases hn:num=0);rotate_left 8
 (cases hq:Za9 name<;>rcases emp_cases name with ⟨rfl,hem⟩|⟨hne,hem⟩<;>by_cases hn:num=0);rotate_left 8
 have e1:(op==1)=false:=(by simp;omega);have e2:(op==2)=false:=(by simp;omega);have e3:(op==3)=false:=(by simp;omega);have e4:(op==4)=false:=(by simp;omega);have e5:(op==5)=false:=(by simp;omega);have e6:(op==6)=false:=(by simp;omega);have e7:(op==7)=false:=(by simp;omega);have e8:(op==8)=false:=(by simp;omega);have f1:¬ op=1:=qo;have n9:=nm9 h9;have s9:=sh9 h9 l.length;cases hq:Za9 name<;>rcases emp_cases name with ⟨rfl,hem⟩|⟨hne,hem⟩<;>by_cases hn:num=0
 all_goals try (exact absurd rfl (ident_ne hq))
 all_goals (first|subst hn|(have hnb:(num==0)=false:=(by simpa using hn))|skip)
 all_goals
  have HJ:=HI.out
  rw [hq] at HJ
  replace HJ:=hdQ HJ
  clear HI
  go_enter Tryz.func153,Tryz.ntmps153
  go_wp2_with ((first|(go_at_call 154;refine (HJ.out _).mono ?_;rintro e w' ⟨rfl,hb⟩;have hz:=hb.size;(try simp at hz);obtain ⟨c0,f0,z0⟩:=bxx hb (w.heap.size))|(go_at_call 77;refine (Zbx hn _).mono ?_;rintro e w' ⟨rfl,rfl⟩)|fail))
  iterate 2 (try (go_quiet ((first|(go_at_call 77;exact Zap (Zbx hn _))|fail));go_wp2_with ((first|(go_at_call 154;refine (HJ.out _).mono ?_;rintro e w' ⟨rfl,hb⟩;have hz:=hb.size;(try simp at hz);obtain ⟨c0,f0,z0⟩:=bxx hb (w.heap.size))|(go_at_call 77;refine (Zbx hn _).mono ?_;rintro e w' ⟨rfl,rfl⟩)|fail))))
  all_goals go_ret
  all_goals exact ⟨Zad (by rw [fld];first|(simp [Zbi,hne];done)|(simp [n9,hne];done)|(simp [Zbi,hq];done)|(simp [Zbi,hn];done)|(simp [n9,hn,f1];done)|(rw [sh1,Ze3 0];simp [Zbi,hn];done)|(rw [sh2,Ze3 0];simp [Zbi,hq];done)|(rw [sh8,len_le 3];simp [Zbi,hq];done)|(rw [sh3,Ze3 1];simp [Zbi];done)|(rw [sh4,Ze3 2];simp [Zbi];done)|(rw [sh5,Ze3 2];simp [Zbi];done)|(rw [sh6,Ze3 2];simp [Zbi];done)|(rw [sh7,Ze3 2];simp [Zbi];done)|(simp [n9,s9,f1];done)),bll⟩
theorem S_l13Uses {A A2:Option Addr} {c c2:Nat} {p:Zae} (w:World) (h:Zdl w A c A2 c2 p) (hn:Zbg p p.1.length=true) (ha:Zbp p p.2.length=true) (h1:p.1.length<=1048576) (h2:p.2.length<=1048576) :
  Calls Tryz.prog 184 #[Zbs A p.1.length c A2 p.2.length c2] w λe w'=>∃ g,e=.returned (sl g p.1.length)/\Own w' g 3 (ints (Zgb p.1.length (usesP p)))/\w.heap.size<=g/\Below w.heap.size w w':=by
 have H0:=hdQ h
 have HN:=hdQ hn
 have HA:=hdQ ha
 clear h hn ha
 have hmk:∀ wx:World,(Instr.makeSlice 24 (.int .i64 p.1.length) (.int .i64 p.1.length)).run Tryz.prog wx=.ok (.slice (some ⟨wx.heap.size,0,none⟩) p.1.length p.1.length) (wx.alloc (.cells (madeCells #[Value.int .i64 0] p.1.length) 3)):=by
  intro wx
  have:=run_mk (P:=Tryz.prog) 24 3 _ 1 8 Tryz.underlying24 T.infoInt p.1.length qo qo wx
  simp only [Nat.mul_one] at this
  exact this
 have HP0:=qh (Own ((w.alloc (.cells #[.slice A p.1.length c,.slice A2 p.2.length c2] 62)).alloc (.cells (madeCells #[Value.int .i64 0] p.1.length) 3)) w.heap.size 62 [.slice A p.1.length c,.slice A2 p.2.length c2]) (Own.alloc (Own.new w _ #[_,_]) _)
 have HU0:=qh (Own ((w.alloc (.cells #[.slice A p.1.length c,.slice A2 p.2.length c2] 62)).alloc (.cells (madeCells #[Value.int .i64 0] p.1.length) 3)) (w.heap.size+1) 3 (ints (Zgb p.1.length (Zar p 0)))) (by rw [show Zar p 0=[] from rfl,cntL_nil,<- zeros_ints];exact Own.at_new qs)
 go_enter Tryz.func184,Tryz.ntmps184
 go_wp2_with fail
 clear hmk
 go_loopw [5,17] (λ_ i wr=>∃ k:Nat,k<=p.1.length/\i=.int .i64 k/\Own wr w.heap.size 62 [.slice A p.1.length c,.slice A2 p.2.length c2]/\Own wr (w.heap.size+1) 3 (ints (Zgb p.1.length (Zar p k)))/\Below w.heap.size w wr) (λ_ i _=>p.1.length-(RowKit.intOf i).toNat)
 case atStart=>exact ⟨0,Nat.zero_le _,rfl,HP0.out,HU0.out,bll⟩
 case round =>
  obtain ⟨k,hk,rfl,hp,hu,hb⟩:=hrel
  obtain ⟨wo,rfl⟩:=qe wr
  have hz:=hb.size
  have hl:=hu.lt
  have HP:=hdQ hp
  have HU:=hdQ hu
  have HB:=hdQ hb
  have p0:wo.cell? ⟨w.heap.size,0,none⟩=some (.slice A p.1.length c):=hp.cell 0
  have p1:wo.cell? ⟨w.heap.size,1,none⟩=some (.slice A2 p.2.length c2):=hp.cell 1
  clear hp hu hb HP0 HU0
  by_cases hlt:k<p.1.length
  ·
   obtain ⟨b,o,A',c',rfl,hbh,hs,hr,x0,x1,x2,x3⟩:=H0.out.1.2.2 k hlt
   have d0:=(HB.out.cell (p:=⟨b,o+k*4,none⟩) hbh).trans x0
   have d1:=(HB.out.cell (p:=⟨b,o+k*4+1,none⟩) hbh).trans x1
   have d2:=(HB.out.cell (p:=⟨b,o+k*4+2,none⟩) hbh).trans x2
   have d3:=(HB.out.cell (p:=⟨b,o+k*4+3,none⟩) hbh).trans x3
   clear x0 x1 x2 x3
   obtain ⟨⟨op,name,num,args⟩,hx⟩:∃ x,p.1[k]=x:=⟨_,rfl⟩
   rw [hx] at d0 d1 d2 d3 hr hs
   (try dsimp only at d0 d1 d2 d3 hr hs)
   have HX:=hdQ hx
   have HR:=hdQ hr
   have HS:=hdQ hs
   have i0:(k:Int)<p.1.length:=qo
   have i00:(0:Int)<=k:=qo
   have HUL:=qh ((Zar p k).length<=3*k) (Ze2 k qo (nodesTo_mono qo (Nat.le_refl _) HN.out))
   have HOK:=qh (args.length<=3/\∀ a∈args,0<=a/\a<k) (by have:=Zeo (Zcl HN.out hlt);rw [hx] at this;exact this)
   clear hx hr hs
   have ha3:=HOK.out.1
   go_wp2_with fail
   go_loopw [7,24] (λ_ i wr=>∃ j:Nat,j<=args.length/\i=.int .i64 j/\Own wr w.heap.size 62 [.slice (some ⟨b,o,none⟩) p.1.length c,.slice A2 p.2.length c2]/\Own wr (w.heap.size+1) 3 (ints (Zgb p.1.length (Zar p k++(args.take j).map Int.toNat)))/\Below w.heap.size w wr) (λ_ i _=>args.length-(RowKit.intOf i).toNat)
   case atStart=>exact ⟨0,Nat.zero_le _,rfl,(owx HP.out),by rw [List.take_zero,List.map_nil,List.append_nil];exact (owx HU.out),bll⟩
   case round =>
    obtain ⟨j,hj,rfl,hp2,hu2,hb2⟩:=hrel
    obtain ⟨wi,rfl⟩:=qe wr
    have hz2:=hb2.size
    have hl2:=hu2.lt
    have HP2:=hdQ hp2
    have HU2:=hdQ hu2
    have HB2:=hdQ hb2
    have q0:wi.cell? ⟨w.heap.size,0,none⟩=some (.slice (some ⟨b,o,none⟩) p.1.length c):=hp2.cell 0
    have q1:wi.cell? ⟨w.heap.size,1,none⟩=some (.slice A2 p.2.length c2):=hp2.cell 1
    clear hp2 hb2
    by_cases hlj:j<args.length
    ·obtain ⟨b2,o2,rfl,hbh2,hcell2⟩:=(RS.step HB2.out HR.out).open_.2.2 qo
     have e1:wi.cell? ⟨b2,o2+j,none⟩=some (.int .i64 args[j]):=by rw [hcell2 j qo,Zdf hlj]
     have hin:=HOK.out.2 _ (List.getElem_mem hlj)
     obtain ⟨m,hm⟩:∃ m:Nat,args[j]=m:=⟨args[j].toNat,qo⟩
     have hmn:m<p.1.length:=qo
     rw [hm] at e1
     have e2:wi.cell? ⟨w.heap.size+1,m,none⟩=some (.int .i64 ((Zar p k++(args.take j).map Int.toNat).count m:Int)):=by rw [hu2.cell,Zga hmn]
     have e3:wi.frozen? ⟨w.heap.size+1,m,none⟩=false:=hu2.frozen _
     have hcl:(Zar p k++(args.take j).map Int.toNat).count m<=3*k+j:=by
      have h1:=count_le (l:=Zar p k++(args.take j).map Int.toNat) m
      have h2:=HUL.out
      rw [List.length_append,List.length_map] at h1
      have h3:(args.take j).length<=j:=by rw [List.length_take];omega
      omega
     have HNX:Hid ((ints (Zgb p.1.length (Zar p k++(args.take j).map Int.toNat))).set m (.int .i64 (((Zar p k++(args.take j).map Int.toNat).count m:Int)+1))=ints (Zgb p.1.length (Zar p k++(args.take (j+1)).map Int.toNat))):=hdQ (by
      rw [cntL_snoc hmn,List.take_succ_eq_append_getElem hlj,List.map_append,<- List.append_assoc]
      simp [hm])
     generalize (Zar p k++(args.take j).map Int.toNat).count m=q at *
     have hw1:IntKind.i64.wrap ((q:Int)+1)=q+1:=IntWalk.i64_in _ qo
     have i1:(j:Int)<args.length:=qo
     have i2:(m:Int)<p.1.length:=qo
     have i3:(0:Int)<=m:=qo
     clear hcell2 hu2 hin hm
     go_wp2_with fail
     go_roundw
     case rel=>exact ⟨j+1,qo,qg,(owx HP2.out),by rw [<- HNX.out];exact Own.set_ HU2.out m _,bll⟩
     case measure=>exact qn
    ·obtain rfl:j=args.length:=by omega
     have HUX:=qh (Own wi (w.heap.size+1) 3 (ints (Zgb p.1.length (Zar p (k+1))))) (by have:=HU2.out;rw [List.take_length] at this;rw [Zf3 hlt,HX.out];exact this)
     clear hu2
     go_wp2_with fail
     go_roundw
     case rel=>exact ⟨k+1,qo,qg,(owx HP2.out),HUX.out,bll⟩
     case measure=>exact qn
  ·obtain rfl:k=p.1.length:=by omega
   have HUR:=qh (Own wo (w.heap.size+1) 3 (ints (Zgb p.1.length (Za3 p 0)))) (by unfold Za3;rw [List.take_zero,List.append_nil,<- nodeUses_all];exact HU.out)
   go_wp2_with fail
   go_loopw [9,39] (λ_ i wr=>∃ j:Nat,j<=p.2.length/\i=.int .i64 j/\Own wr (w.heap.size+1) 3 (ints (Zgb p.1.length (Za3 p j)))/\Below w.heap.size w wr) (λ_ i _=>p.2.length-(RowKit.intOf i).toNat)
   case atStart=>exact ⟨0,Nat.zero_le _,rfl,HUR.out,HB.out⟩
   case round =>
    obtain ⟨j,hj,rfl,hu2,hb2⟩:=hrel
    obtain ⟨wi,rfl⟩:=qe wr
    have hz2:=hb2.size
    have hl2:=hu2.lt
    have HU2:=hdQ hu2
    have HB2:=hdQ hb2
    clear hb2 HUR
    by_cases hlj:j<p.2.length
    ·obtain ⟨b,o,rfl,hbh,hs,x0,x1⟩:=H0.out.2.2.2 j hlj
     have d0:=(HB2.out.cell (p:=⟨b,o+j*2,none⟩) hbh).trans x0
     have d1:=(HB2.out.cell (p:=⟨b,o+j*2+1,none⟩) hbh).trans x1
     have hok:Zbz p.1.length p.2[j]=true:=Ze7 HA.out hlj
     unfold Zbz at hok
     simp only [Bool.and_eq_true] at hok
     have hin:=Zbk hok.2
     obtain ⟨m,hm⟩:∃ m:Nat,p.2[j].2=m:=⟨p.2[j].2.toNat,qo⟩
     have hmn:m<p.1.length:=qo
     have HNX:=qh ((ints (Zgb p.1.length (Za3 p j))).set m (.int .i64 (((Za3 p j).count m:Int)+1))=ints (Zgb p.1.length (Za3 p (j+1)))) (by rw [cntL_snoc hmn,rootUses_succ hlj,hm];rfl)
     rw [hm] at d1
     have e2:wi.cell? ⟨w.heap.size+1,m,none⟩=some (.int .i64 ((Za3 p j).count m:Int)):=by rw [hu2.cell,Zga hmn]
     have e3:wi.frozen? ⟨w.heap.size+1,m,none⟩=false:=hu2.frozen _
     have hcl:(Za3 p j).count m<=3*p.1.length+j:=Nat.le_trans (count_le m) (rootUses_len HN.out j)
     generalize (Za3 p j).count m=q at *
     have hw1:IntKind.i64.wrap ((q:Int)+1)=q+1:=IntWalk.i64_in _ qo
     have i1:(j:Int)<p.2.length:=qo
     have i2:(m:Int)<p.1.length:=qo
     have i3:(0:Int)<=m:=qo
     generalize hnm:p.2[j].1=nm at *
     clear x0 x1 hok hin hm hu2 hs hnm
     go_wp2_with fail
     go_roundw
     case rel=>exact ⟨j+1,qo,qg,by rw [<- HNX.out];first|exact Own.set_ (owx HU2.out) m _|exact Own.alloc (Own.set_ (owx HU2.out) m _) _,bll⟩
     case measure=>exact qn
    ·obtain rfl:j=p.2.length:=by omega
     have HUE:=qh (Own wi (w.heap.size+1) 3 (ints (Zgb p.1.length (usesP p)))) (by rw [<- rootUses_all];exact HU2.out)
     clear hu2
     go_wp2_with fail
     go_ret
     exact ⟨_,rfl,HUE.out,qo,HB2.out⟩
theorem S_IsValidProgram {A A2:Option Addr} {c c2:Nat} {p:Zae} (w:World) (h:Zdl w A c A2 c2 p) (h1:p.1.length<=1048576) (h2:p.2.length<=1048576) :
  Calls Tryz.prog 126 #[Zbs A p.1.length c A2 p.2.length c2] w λe w'=>e=.returned (.bool (Zat p))/\Below w.heap.size w w':=by
 have H0:=hdQ h
 clear h
 have HP0:=qh (Own (w.alloc (.cells #[.slice A p.1.length c,.slice A2 p.2.length c2] 62)) w.heap.size 62 [.slice A p.1.length c,.slice A2 p.2.length c2]) (Own.new w _ #[_,_])
 have hwn:IntKind.i64.wrap ((p.1.length:Int)-1)=(p.1.length:Int)-1:=IntWalk.i64_in _ qo
 go_enter Tryz.func126,Tryz.ntmps126
 go_wp2_with fail
 go_loopw [3,4,12] (λ_ _ i wr=>∃ k:Nat,k<=p.1.length/\i=.int .i64 k/\Zbg p k=true/\Own wr w.heap.size 62 [.slice A p.1.length c,.slice A2 p.2.length c2]/\Below w.heap.size w wr) (λ_ _ i _=>p.1.length-(RowKit.intOf i).toNat)
 case atStart=>exact ⟨0,Nat.zero_le _,rfl,rfl,HP0.out,bll⟩
 case round =>
  obtain ⟨k,hk,rfl,ht,hp,hb⟩:=hrel
  obtain ⟨wo,rfl⟩:=qe wr
  have hz:=hb.size
  have hpl:=hp.lt
  have HT:=hdQ ht
  have HP:=hdQ hp
  have HB:=hdQ hb
  have p0:wo.cell? ⟨w.heap.size,0,none⟩=some (.slice A p.1.length c):=hp.cell 0
  have p1:wo.cell? ⟨w.heap.size,1,none⟩=some (.slice A2 p.2.length c2):=hp.cell 1
  clear hp hb HP0 ht
  by_cases hlt:k<p.1.length
  ·
   obtain ⟨b,o,A',c',rfl,hbh,hs,hr,x0,x1,x2,x3⟩:=H0.out.1.2.2 k hlt
   have d0:=(HB.out.cell (p:=⟨b,o+k*4,none⟩) hbh).trans x0
   have d1:=(HB.out.cell (p:=⟨b,o+k*4+1,none⟩) hbh).trans x1
   have d2:=(HB.out.cell (p:=⟨b,o+k*4+2,none⟩) hbh).trans x2
   have d3:=(HB.out.cell (p:=⟨b,o+k*4+3,none⟩) hbh).trans x3
   clear x0 x1 x2 x3
   obtain ⟨⟨op,name,num,args⟩,hx⟩:∃ x,p.1[k]=x:=⟨_,rfl⟩
   rw [hx] at d0 d1 d2 d3 hr hs
   (try dsimp only at d0 d1 d2 d3 hr hs)
   have HX:=hdQ hx
   have HR:=hdQ hr
   have HS:=hdQ hs
   have i0:(k:Int)<p.1.length:=qo
   have i00:(0:Int)<=k:=qo
   have HTS:=hdQ (Ze1 hlt)
   rw [HX.out] at HTS
   have HCN:=qh (∀ wx,Below w.heap.size w wx->CB_ Tryz.prog 182 #[vNode op name num A' args.length c',.int .i64 k] wx (.bool (Zdb k (op,name,num,args)))) (λwx hbx=>S_l13Node wx qo HS.out (RS.step hbx HR.out))
   cases hok:Zdb k (op,name,num,args) with
   | false =>
    have HF:=qh (Zat p=false) (by rw [Zc2,nodesTo_no hlt (by rw [hx];exact hok)];simp)
    rw [hok] at HCN
    clear hx hr hs
    go_wp2_with (first|(go_at_call 182;refine (HCN.out _ bll).mono ?_;rintro e w' ⟨rfl,hbx⟩;have hzx:=hbx.size;(try simp at hzx);have q0:=hbx.cell (p:=⟨w.heap.size,0,none⟩) (by simp;omega);have q1:=hbx.cell (p:=⟨w.heap.size,1,none⟩) (by simp;omega);have HBX:=hdQ hbx;clear hbx)|fail)
    go_ret
    exact ⟨Zad HF.out.symm,Below.step HBX.out bll (by simp;omega)⟩
   | true =>
    have HK:=qh (Zbg p (k+1)=true) (by rw [HTS.out,HT.out,hok];rfl)
    rw [hok] at HCN
    clear hx hr hs
    go_wp2_with (first|(go_at_call 182;refine (HCN.out _ bll).mono ?_;rintro e w' ⟨rfl,hbx⟩;have hzx:=hbx.size;(try simp at hzx);have HBX:=hdQ hbx;clear hbx)|fail)
    go_roundw
    case rel=>exact ⟨k+1,qo,qg,HK.out,Own.step HBX.out (owx HP.out),Below.step HBX.out bll (by simp;omega)⟩
    case measure=>exact qn
  ·obtain rfl:k=p.1.length:=by omega
   go_wp2_with fail
   go_loopw [6,25] (λ_ i wr=>∃ j:Nat,j<=p.2.length/\i=.int .i64 j/\Zbp p j=true/\Own wr w.heap.size 62 [.slice A p.1.length c,.slice A2 p.2.length c2]/\Below w.heap.size w wr) (λ_ i _=>p.2.length-(RowKit.intOf i).toNat)
   case atStart=>exact ⟨0,Nat.zero_le _,rfl,rfl,HP.out,HB.out⟩
   case round =>
    obtain ⟨j,hj,rfl,ha,hp2,hb2⟩:=hrel
    obtain ⟨wi,rfl⟩:=qe wr
    have hz2:=hb2.size
    have hl2:=hp2.lt
    have HA:=hdQ ha
    have HP2:=hdQ hp2
    have HB2:=hdQ hb2
    have q0:wi.cell? ⟨w.heap.size,0,none⟩=some (.slice A p.1.length c):=hp2.cell 0
    have q1:wi.cell? ⟨w.heap.size,1,none⟩=some (.slice A2 p.2.length c2):=hp2.cell 1
    clear hb2 hp2 ha
    by_cases hlj:j<p.2.length
    ·obtain ⟨b,o,rfl,hbh,hs,x0,x1⟩:=H0.out.2.2.2 j hlj
     have d0:=(HB2.out.cell (p:=⟨b,o+j*2,none⟩) hbh).trans x0
     have d1:=(HB2.out.cell (p:=⟨b,o+j*2+1,none⟩) hbh).trans x1
     have HAS:=hdQ (assignsTo_succ hlj)
     obtain ⟨⟨nm,rt⟩,hx⟩:∃ x,p.2[j]=x:=⟨_,rfl⟩
     rw [hx] at d0 d1 hs HAS
     (try dsimp only at d0 d1 hs)
     have HX:=hdQ hx
     have i1:(j:Int)<p.2.length:=qo
     have i2:(0:Int)<=j:=qo
     have HQ:=qh (∀ wx,Calls Tryz.prog 183 #[str nm] wx λe w'=>e=.returned (.bool (Za9 nm))/\wx=w') (λwx=>Zfh wx hs)
     clear x0 x1 hs hx
     have fin:∀ b:Bool,Zbz p.1.length (nm,rt)=b->(b=false->Zat p=false)/\(b=true->Zbp p (j+1)=true):=λb hb=>⟨λe=>by rw [Zc2,assignsTo_no hlj (by rw [HX.out,hb,e])];simp,λe=>by rw [HAS.out,HA.out,hb,e];rfl⟩
     have FIN:=hdQ fin
     clear fin
     cases hid:Za9 nm with
     | false =>
      have HF:=hdQ ((FIN.out false (by unfold Zbz;rw [hid];rfl)).1 rfl)
      rw [hid] at HQ
      go_wp2_with (first|(go_at_call 183;refine (HQ.out _).mono ?_;rintro e w' ⟨rfl,rfl⟩)|fail)
      (try (go_quiet ((first|(go_at_call 183;exact Zap (HQ.out _))|fail));go_wp2_with (first|(go_at_call 183;refine (HQ.out _).mono ?_;rintro e w' ⟨rfl,rfl⟩)|fail)))
      go_ret
      exact ⟨Zad HF.out.symm,bll⟩
     | true =>
      rw [hid] at HQ
      cases hin:inB rt 0 ((p.1.length:Int)-1) with
      | false =>
       have HF:=hdQ ((FIN.out false (by unfold Zbz;rw [hid];exact hin)).1 rfl)
       go_wp2_with (first|(go_at_call 183;refine (HQ.out _).mono ?_;rintro e w' ⟨rfl,rfl⟩)|(go_at_call 119;refine (Zca hin _).mono ?_;rintro e w' ⟨rfl,rfl⟩)|fail)
       (try (go_quiet ((first|(go_at_call 183;exact Zap (HQ.out _))|(go_at_call 119;exact Zap (Zca hin _))|fail));go_wp2_with (first|(go_at_call 183;refine (HQ.out _).mono ?_;rintro e w' ⟨rfl,rfl⟩)|(go_at_call 119;refine (Zca hin _).mono ?_;rintro e w' ⟨rfl,rfl⟩)|fail)))
       go_ret
       exact ⟨Zad HF.out.symm,bll⟩
      | true =>
       have HF:=hdQ ((FIN.out true (by unfold Zbz;rw [hid];exact hin)).2 rfl)
       go_wp2_with (first|(go_at_call 183;refine (HQ.out _).mono ?_;rintro e w' ⟨rfl,rfl⟩)|(go_at_call 119;refine (Zca hin _).mono ?_;rintro e w' ⟨rfl,rfl⟩)|fail)
       (try (go_quiet ((first|(go_at_call 183;exact Zap (HQ.out _))|(go_at_call 119;exact Zap (Zca hin _))|fail));go_wp2_with (first|(go_at_call 183;refine (HQ.out _).mono ?_;rintro e w' ⟨rfl,rfl⟩)|(go_at_call 119;refine (Zca hin _).mono ?_;rintro e w' ⟨rfl,rfl⟩)|fail)))
       go_roundw
       case rel=>exact ⟨j+1,qo,qg,HF.out,(owx HP2.out),bll⟩
       case measure=>exact qn
    ·obtain rfl:j=p.2.length:=by omega
     have HU:=qh (Calls Tryz.prog 184 #[Zbs A p.1.length c A2 p.2.length c2] wi λe w'=>∃ g,e=.returned (sl g p.1.length)/\Own w' g 3 (ints (Zgb p.1.length (usesP p)))/\wi.heap.size<=g/\Below wi.heap.size wi w') (S_l13Uses _ (H0.out.step HB2.out) HT.out HA.out h1 h2)
     go_wp2_with fail
     refine HU.out.mono ?_
     rintro e w3 ⟨g,rfl,ho,hg,hb3⟩
     have hz3:=hb3.size
     have r0:=(hb3.cell (p:=⟨w.heap.size,0,none⟩) qo).trans q0
     have HO:=hdQ ho
     have HB3:=qh (Below w.heap.size w w3) (Below.step hb3 HB2.out qo)
     have hgl:=ho.lt
     clear ho hb3 HU q0 q1 p0 p1
     go_wp2_with fail
     go_loop [8,47] (λ_ i=>∃ m:Nat,m<=p.1.length/\i=.int .i64 m/\Ze0 (usesP p) m=true) (λ_ i=>p.1.length-(RowKit.intOf i).toNat)
     case atStart=>exact ⟨0,Nat.zero_le _,rfl,rfl⟩
     case round =>
      obtain ⟨m,hm,rfl,hones⟩:=hrel
      have HON:=hdQ hones
      clear hones
      by_cases hlm:m<p.1.length
      ·have e2:w3.cell? ⟨g,m,none⟩=some (.int .i64 ((usesP p).count m:Int)):=by rw [HO.out.cell,Zga hlm]
       have i1:(m:Int)<p.1.length:=qo
       have i2:(0:Int)<=m:=qo
       by_cases hone:(usesP p).count m=1
       ·have HK:=qh (Ze0 (usesP p) (m+1)=true) (by rw [onesTo_succ,HON.out,hone];rfl)
        rw [hone] at e2
        go_wp2_with fail
        go_round
        case rel=>exact ⟨m+1,qo,qg,HK.out⟩
        case measure=>exact qn
       ·have HF:=qh (Zat p=false) (by rw [Zc2,onesTo_no hlm hone];simp)
        generalize (usesP p).count m=q at *
        have hq:((q:Int)==1)=false:=by simp;omega
        go_wp2_with fail
        go_ret
        exact ⟨Zad HF.out.symm,HB3.out⟩
      ·obtain rfl:m=p.1.length:=by omega
       have HF:=qh (Zat p=decide (p.1.length<=60)) (by rw [Zc2,HT.out,HA.out,HON.out];simp)
       go_wp2_with fail
       go_ret
       exact ⟨Zad (by rw [HF.out,len_le 60];rfl),HB3.out⟩
theorem ints_set (o:List Int) (m:Nat) (v:Int):(ints o).set m (.int .i64 v)=ints (o.set m v):=by simp [ints,List.map_set]
theorem setAll_take {ls:List Nat} {k:Int} {o:List Int} {t:Nat} (h:t<ls.length):Zc8 (ls.take (t+1)) k o=(Zc8 (ls.take t) k o).set ls[t] k:=by
 unfold Zc8;rw [List.take_succ_eq_append_getElem h,List.foldl_append];rfl
theorem Zfp {o:List Int} {i:Nat} (h:i<o.length):(ints o)[i]? = some (.int .i64 (o.getD i 0)):=by simp [h]
theorem gOfP_at {p:Zae} {i:Nat} (h:i<p.1.length):(Zb3 p).getD i []=p.1[i].2.2.2.map Int.toNat:=by
 rw [Zb9 (by rw [Zbt];exact h)];simp [Zb3]
theorem rOfP_at {p:Zae} {i:Nat} (h:i<p.2.length):(Zds p).getD i 0=p.2[i].2.toNat:=by
 rw [Zb9 (by simp [Zds];exact h)];simp [Zds]
theorem root_is {p:Zae} (h:Zat p=true) {k:Nat} (hk:k<p.2.length):∃ m:Nat,p.2[k].2=m/\m<p.1.length/\(Zds p).getD k 0=m:=by
 obtain ⟨h1,h2,h3⟩:=Zfj h hk
 refine ⟨p.2[k].2.toNat,qo,qo,rOfP_at hk⟩
theorem arg_is {p:Zae} (h:Zbg p p.1.length=true) {i:Nat} (hi:i<p.1.length) {t:Nat} (ht:t<p.1[i].2.2.2.length):∃ m:Nat,p.1[i].2.2.2[t]=m/\m<i/\∃ h':t<((Zb3 p).getD i []).length,((Zb3 p).getD i [])[t]=m:=by
 have h1:=Zfo h hi _ (List.getElem_mem ht)
 refine ⟨p.1[i].2.2.2[t].toNat,qo,qo,by rw [gOfP_at hi,List.length_map];exact ht, ?_⟩
 simp only [gOfP_at hi,List.getElem_map]
theorem S_l14Owners {A A2:Option Addr} {c c2:Nat} {p:Zae} (w:World) (h:Zdl w A c A2 c2 p) (hv:Zat p=true) :
  Calls Tryz.prog 228 #[Zbs A p.1.length c A2 p.2.length c2] w λe w'=>∃ g,e=.returned (sl g p.1.length)/\Own w' g 3 (ints (ownP p))/\w.heap.size<=g/\Below w.heap.size w w':=by
 have H0:=hdQ h
 have HV:=hdQ hv
 have h1:=Zb8 hv
 have h2:=Zbw hv
 clear h hv
 have hmk:∀ wx:World,(Instr.makeSlice 24 (.int .i64 p.1.length) (.int .i64 p.1.length)).run Tryz.prog wx=.ok (.slice (some ⟨wx.heap.size,0,none⟩) p.1.length p.1.length) (wx.alloc (.cells (madeCells #[Value.int .i64 0] p.1.length) 3)):=by
  intro wx
  have:=run_mk (P:=Tryz.prog) 24 3 _ 1 8 Tryz.underlying24 T.infoInt p.1.length qo qo wx
  simp only [Nat.mul_one] at this
  exact this
 have HP0:=qh (Own ((w.alloc (.cells #[.slice A p.1.length c,.slice A2 p.2.length c2] 62)).alloc (.cells (madeCells #[Value.int .i64 0] p.1.length) 3)) w.heap.size 62 [.slice A p.1.length c,.slice A2 p.2.length c2]) (Own.alloc (Own.new w _ #[_,_]) _)
 have HU0:=qh (Own ((w.alloc (.cells #[.slice A p.1.length c,.slice A2 p.2.length c2] 62)).alloc (.cells (madeCells #[Value.int .i64 0] p.1.length) 3)) (w.heap.size+1) 3 (ints (Zbb p.1.length (Zds p) 0))) (by rw [Zbb,<- zeros_ints];exact Own.at_new qs)
 have hwn:IntKind.i64.wrap ((p.1.length:Int)-1)=(p.1.length:Int)-1:=IntWalk.i64_in _ qo
 go_enter Tryz.func228,Tryz.ntmps228
 go_wp2_with fail
 clear hmk
 go_loopw [4,5,16] (λ_ _ i wr=>∃ j:Nat,j<=p.2.length/\i=.int .i64 j/\Own wr w.heap.size 62 [.slice A p.1.length c,.slice A2 p.2.length c2]/\Own wr (w.heap.size+1) 3 (ints (Zbb p.1.length (Zds p) j))/\Below w.heap.size w wr) (λ_ _ i _=>p.2.length-(RowKit.intOf i).toNat)
 case atStart=>exact ⟨0,Nat.zero_le _,rfl,HP0.out,HU0.out,bll⟩
 case round =>
  obtain ⟨j,hj,rfl,hp,hu,hb⟩:=hrel
  obtain ⟨wo,rfl⟩:=qe wr
  have hz:=hb.size
  have hl:=hu.lt
  have HP:=hdQ hp
  have HU:=hdQ hu
  have HB:=hdQ hb
  have p0:wo.cell? ⟨w.heap.size,0,none⟩=some (.slice A p.1.length c):=hp.cell 0
  have p1:wo.cell? ⟨w.heap.size,1,none⟩=some (.slice A2 p.2.length c2):=hp.cell 1
  have hol:(Zbb p.1.length (Zds p) j).length=p.1.length:=Zcz _ _ _
  clear hp hb HP0 HU0
  by_cases hlj:j<p.2.length
  ·obtain ⟨b,o,rfl,hbh,hs,x0,x1⟩:=H0.out.2.2.2 j hlj
   have d0:=(HB.out.cell (p:=⟨b,o+j*2,none⟩) hbh).trans x0
   have d1:=(HB.out.cell (p:=⟨b,o+j*2+1,none⟩) hbh).trans x1
   obtain ⟨m,hm,hmn,hr⟩:=root_is HV.out hlj
   rw [hm] at d1
   have HNX:=qh ((ints (Zbb p.1.length (Zds p) j)).set m (.int .i64 j)=ints (Zbb p.1.length (Zds p) (j+1))) (by rw [ints_set,Zbb,hr])
   have e2:wo.cell? ⟨w.heap.size+1,m,none⟩=some (.int .i64 ((Zbb p.1.length (Zds p) j).getD m 0)):=by rw [hu.cell,Zfp qo]
   have e3:wo.frozen? ⟨w.heap.size+1,m,none⟩=false:=hu.frozen _
   have i1:(j:Int)<p.2.length:=qo
   have i2:(m:Int)<p.1.length:=qo
   have i3:(0:Int)<=m:=qo
   generalize hnm:p.2[j].1=nm at *
   clear x0 x1 hm hu hs hnm hr
   go_wp2_with fail
   go_roundw
   case rel=>exact ⟨j+1,qo,qg,(owx HP.out),by rw [<- HNX.out];first|exact Own.set_ (owx HU.out) m _|exact Own.alloc (Own.set_ (owx HU.out) m _) _,bll⟩
   case measure=>exact qn
  ·obtain rfl:j=p.2.length:=by omega
   have HD0:=qh (Own wo (w.heap.size+1) 3 (ints (downTo (Zb3 p) (Zbb p.1.length (Zds p) (Zds p).length) 0))) (by rw [downTo,show (Zds p).length=p.2.length by simp [Zds]];exact HU.out)
   clear hu
   go_wp2_with fail
   go_loopw [6,8] (λi _ wr=>∃ j:Nat,j<=p.1.length/\i=.int .i64 ((p.1.length:Int)-1-j)/\Own wr w.heap.size 62 [.slice A p.1.length c,.slice A2 p.2.length c2]/\Own wr (w.heap.size+1) 3 (ints (downTo (Zb3 p) (Zbb p.1.length (Zds p) (Zds p).length) j))/\Below w.heap.size w wr) (λi _ _=>(RowKit.intOf i+1).toNat)
   case atStart=>exact ⟨0,Nat.zero_le _,qs,HP.out,HD0.out,HB.out⟩
   case round =>
    obtain ⟨j,hj,rfl,hp2,hu2,hb2⟩:=hrel
    obtain ⟨wi,rfl⟩:=qe wr
    have hz2:=hb2.size
    have hl2:=hu2.lt
    have HP2:=hdQ hp2
    have HU2:=hdQ hu2
    have HB2:=hdQ hb2
    have q0:wi.cell? ⟨w.heap.size,0,none⟩=some (.slice A p.1.length c):=hp2.cell 0
    have q1:wi.cell? ⟨w.heap.size,1,none⟩=some (.slice A2 p.2.length c2):=hp2.cell 1
    have hol2:(downTo (Zb3 p) (Zbb p.1.length (Zds p) (Zds p).length) j).length=p.1.length:=by rw [Zfr,Zcz]
    clear hp2 hb2 hu2 HD0 p0 p1
    by_cases hlj:j<p.1.length
    ·obtain ⟨i,hi⟩:∃ i,i+j+1=p.1.length:=⟨p.1.length-1-j,qo⟩
     have hii:(p.1.length:Int)-1-j=i:=qo
     have hilt:i<p.1.length:=qo
     rw [hii]
     have HDN:=qh (downTo (Zb3 p) (Zbb p.1.length (Zds p) (Zds p).length) (j+1)=Zc8 ((Zb3 p).getD i []) ((downTo (Zb3 p) (Zbb p.1.length (Zds p) (Zds p).length) j).getD i 0) (downTo (Zb3 p) (Zbb p.1.length (Zds p) (Zds p).length) j)) (by rw [downTo,Zbt,show p.1.length-1-j=i by omega])
     generalize downTo (Zb3 p) (Zbb p.1.length (Zds p) (Zds p).length) j=dl at *
     obtain ⟨b,o,A',c',rfl,hbh,hs,hr,x0,x1,x2,x3⟩:=H0.out.1.2.2 i hilt
     have d3:=(HB2.out.cell (p:=⟨b,o+i*4+3,none⟩) hbh).trans x3
     have HR:=hdQ hr
     have HAR:=qh (∀ t (ht:t<p.1[i].2.2.2.length),∃ m:Nat,p.1[i].2.2.2[t]=m/\m<i/\∃ h':t<((Zb3 p).getD i []).length,((Zb3 p).getD i [])[t]=m) (λt ht=>arg_is (Za7 HV.out) hilt ht)
     have HGL:=qh (((Zb3 p).getD i []).length=p.1[i].2.2.2.length) (by rw [gOfP_at hilt,List.length_map])
     have HLT:=qh (∀ a∈(Zb3 p).getD i [],a<i) (λa ha=>valid_down (Za7 HV.out) i a ha)
     have ha3:p.1[i].2.2.2.length<=3:=(Zeo (Zcl (Za7 HV.out) hilt)).1
     generalize p.1[i].2.2.2=args at *
     have i1:(i:Int)<p.1.length:=qo
     have i2:(0:Int)<=i:=qo
     have hw1:IntKind.i64.wrap ((i:Int)-1)=(i:Int)-1:=IntWalk.i64_in _ qo
     clear x0 x1 x2 x3 hs hr hii
     go_wp2_with fail
     go_loopw [8,42] (λ_ i_ wr=>∃ t:Nat,t<=args.length/\i_=.int .i64 t/\Own wr w.heap.size 62 [.slice (some ⟨b,o,none⟩) p.1.length c,.slice A2 p.2.length c2]/\Own wr (w.heap.size+1) 3 (ints (Zc8 (((Zb3 p).getD i []).take t) (dl.getD i 0) dl))/\Below w.heap.size w wr) (λ_ i_ _=>args.length-(RowKit.intOf i_).toNat)
     case atStart=>exact ⟨0,Nat.zero_le _,rfl,HP2.out,by rw [List.take_zero];exact HU2.out,HB2.out⟩
     case round =>
      obtain ⟨t,ht,rfl,hp3,hu3,hb3⟩:=hrel
      obtain ⟨wj,rfl⟩:=qe wr
      have hz3:=hb3.size
      have hl3:=hu3.lt
      have HP3:=hdQ hp3
      have HU3:=hdQ hu3
      have HB3:=hdQ hb3
      have hol3:(Zc8 (((Zb3 p).getD i []).take t) (dl.getD i 0) dl).length=p.1.length:=by rw [setAll_len];exact hol2
      clear hp3 hb3
      by_cases hlt:t<args.length
      ·obtain ⟨b2,o2,rfl,hbh2,hcell2⟩:=(RS.step HB3.out HR.out).open_.2.2 qo
       have e1:wj.cell? ⟨b2,o2+t,none⟩=some (.int .i64 args[t]):=by rw [hcell2 t qo,Zdf hlt]
       obtain ⟨m,hm,hmi,h',hg⟩:=HAR.out t hlt
       rw [hm] at e1
       have e2:wj.cell? ⟨w.heap.size+1,i,none⟩=some (.int .i64 (dl.getD i 0)):=by
        rw [hu3.cell,Zfp qo]
        rw [(setAll_at (((Zb3 p).getD i []).take t) (dl.getD i 0) i dl).2 (λhmem=>by have:=HLT.out i (List.mem_of_mem_take hmem);omega)]
       have e4:wj.cell? ⟨w.heap.size+1,m,none⟩=some (.int .i64 ((Zc8 (((Zb3 p).getD i []).take t) (dl.getD i 0) dl).getD m 0)):=by rw [hu3.cell,Zfp qo]
       have e3:wj.frozen? ⟨w.heap.size+1,m,none⟩=false:=hu3.frozen _
       have HNX:Hid ((ints (Zc8 (((Zb3 p).getD i []).take t) (dl.getD i 0) dl)).set m (.int .i64 (dl.getD i 0))=ints (Zc8 (((Zb3 p).getD i []).take (t+1)) (dl.getD i 0) dl)):=hdQ (by rw [ints_set,setAll_take h',hg])
       generalize (Zc8 (((Zb3 p).getD i []).take t) (dl.getD i 0) dl).getD m 0=old at *
       generalize dl.getD i 0=kv at *
       have j1:(t:Int)<args.length:=qo
       have j2:(m:Int)<p.1.length:=qo
       have j3:(0:Int)<=m:=qo
       clear hcell2 hu3 hm hg hol3
       go_wp2_with fail
       go_roundw
       case rel=>exact ⟨t+1,qo,qg,(owx HP3.out),by rw [<- HNX.out];exact Own.set_ HU3.out m _,bll⟩
       case measure=>exact qn
      ·obtain rfl:t=args.length:=by omega
       have HUX:=qh (Own wj (w.heap.size+1) 3 (ints (downTo (Zb3 p) (Zbb p.1.length (Zds p) (Zds p).length) (j+1)))) (by rw [HDN.out];have:=HU3.out;rw [List.take_of_length_le (by rw [HGL.out];exact Nat.le_refl _)] at this;exact this)
       clear hu3
       go_wp2_with fail
       go_roundw
       case rel=>exact ⟨j+1,qo,congrArg (Value.int .i64) qo,HP3.out,HUX.out,HB3.out⟩
       case measure=>exact qn
    ·obtain rfl:j=p.1.length:=by omega
     have hm1:(p.1.length:Int)-1-p.1.length = -1:=qo
     rw [hm1]
     have HUE:=qh (Own wi (w.heap.size+1) 3 (ints (ownP p))) (by have:=HU2.out;unfold ownP ownS;rw [Zbt];exact this)
     go_wp2_with fail
     go_ret
     exact ⟨_,rfl,HUE.out,qo,HB2.out⟩
abbrev vVisit (bo bp bv:Nat):Value:=.func (.func 248) #[] #[.pointer (some ⟨bo,0,none⟩),.pointer (some ⟨bp,0,none⟩),.pointer (some ⟨bv,0,none⟩)]
theorem I_visit {A:Option Addr} {c:Nat} {p:Zae} (w0:World) (hN:NodesIn w0 A c p.1) (hv:Zbg p p.1.length=true) (hn:p.1.length<=60) {g bo bp bv:Nat} (hg:w0.heap.size<=g) (ho:w0.heap.size<=bo) (hp:w0.heap.size<=bp) (hb:w0.heap.size<=bv) (n1:bo≠g) (n2:bp≠g) (n3:bv≠g) :
  ∀ f x,x<f->x<p.1.length->∀ (w:World) (k:Int) (o:List Int),Below w0.heap.size w0 w->bo<w.heap.size->bp<w.heap.size->bv<w.heap.size->w.cell? ⟨bo,0,none⟩=some (sl g p.1.length)->w.cell? ⟨bp,0,none⟩=some (.slice A p.1.length c)->w.cell? ⟨bv,0,none⟩=some (vVisit bo bp bv)->Own w g 3 (ints o)->o.length=p.1.length ->
   Calls Tryz.prog 248 #[.int .i64 x,.int .i64 k,.pointer (some ⟨bo,0,none⟩),.pointer (some ⟨bp,0,none⟩),.pointer (some ⟨bv,0,none⟩)] w λe w'=>e=.returned (.tuple #[])/\Own w' g 3 (ints (Zb7 (Zb3 p) f x k o))/\Only w.heap.size [g] w w':=by
 intro f
 induction f with
 | zero=>intro x hx;omega
 | succ f ih =>
  intro x hxf hxn w k o hB lo lp lv co cp cv hO hol
  have IH:=hdQ ih
  clear ih
  have HB:=hdQ hB
  have HO:=hdQ hO
  have hgl:=hO.lt
  have hz:=hB.size
  obtain ⟨b,off,A',c',rfl,hbh,hs,hr,x0,x1,x2,x3⟩:=hN.2.2 x hxn
  have nb:¬ b=g:=qo
  have d3:=(hB.cell (p:=⟨b,off+x*4+3,none⟩) hbh).trans x3
  have HR:=hdQ hr
  have HAR:=qh (∀ t (ht:t<p.1[x].2.2.2.length),∃ m:Nat,p.1[x].2.2.2[t]=m/\m<x/\∃ h':t<((Zb3 p).getD x []).length,((Zb3 p).getD x [])[t]=m) (λt ht=>arg_is hv hxn ht)
  have HGL:=qh (((Zb3 p).getD x []).length=p.1[x].2.2.2.length) (by rw [gOfP_at hxn,List.length_map])
  have ha3:p.1[x].2.2.2.length<=3:=(Zeo (Zcl hv hxn)).1
  have HVF:=qh (Zb7 (Zb3 p) (f+1) x k o=((Zb3 p).getD x []).foldl (λo a=>Zb7 (Zb3 p) f a k o) (o.set x k)) rfl
  generalize p.1[x].2.2.2=args at *
  have e1:w.cell? ⟨g,x,none⟩=some (.int .i64 (o.getD x 0)):=by rw [hO.cell,Zfp qo]
  have e3:w.frozen? ⟨g,x,none⟩=false:=hO.frozen _
  generalize o.getD x 0=old at *
  have i1:(x:Int)<p.1.length:=qo
  have i2:(0:Int)<=x:=qo
  have HN:=hdQ hN
  have m1:¬ g=bo:=λe=>n1 e.symm
  have m2:¬ g=bp:=λe=>n2 e.symm
  have m3:¬ g=bv:=λe=>n3 e.symm
  have mb:¬ g=b:=λe=>nb e.symm
  clear x0 x1 x2 x3 hs hr hB hO hN
  go_enter Tryz.func248,Tryz.ntmps248
  go_wp2_with fail
  go_loopw [8,20] (λ_ i_ wr=>∃ t:Nat,t<=args.length/\i_=.int .i64 t/\Own wr g 3 (ints ((((Zb3 p).getD x []).take t).foldl (λo a=>Zb7 (Zb3 p) f a k o) (o.set x k)))/\Only w.heap.size [g] w wr) (λ_ i_ _=>args.length-(RowKit.intOf i_).toNat)
  case atStart=>exact ⟨0,Nat.zero_le _,rfl,by rw [List.take_zero,List.foldl_nil,<- ints_set];exact Own.set_ HO.out x _,Only.setCell (Only.refl _ _ _) qs _⟩
  case round =>
   obtain ⟨t,ht,rfl,hu,hOn⟩:=hrel
   obtain ⟨wj,rfl⟩:=qe wr
   have hzj:=hOn.size
   have HU:=hdQ hu
   have HON:=hdQ hOn
   have HBJ:=qh (Below w0.heap.size w0 wj) (HB.out.trans (hOn.below hz (by simp;omega)))
   have q1:=(hOn.cell bo lo (by simpa using n1)).1 0
   have q2:=(hOn.cell bp lp (by simpa using n2)).1 0
   have q3:=(hOn.cell bv lv (by simpa using n3)).1 0
   rw [co] at q1
   rw [cp] at q2
   rw [cv] at q3
   clear hu hOn
   by_cases hlt:t<args.length
   ·obtain ⟨b2,o2,rfl,hbh2,hcell2⟩:=(RS.step HBJ.out HR.out).open_.2.2 qo
    have e4:wj.cell? ⟨b2,o2+t,none⟩=some (.int .i64 args[t]):=by rw [hcell2 t qo,Zdf hlt]
    obtain ⟨m,hm,hmi,h',hga⟩:=HAR.out t hlt
    rw [hm] at e4
    have HC:Hid (Calls Tryz.prog 248 #[.int .i64 m,.int .i64 k,.pointer (some ⟨bo,0,none⟩),.pointer (some ⟨bp,0,none⟩),.pointer (some ⟨bv,0,none⟩)] wj λe w'=>e=.returned (.tuple #[])/\Own w' g 3 (ints (Zb7 (Zb3 p) f m k ((((Zb3 p).getD x []).take t).foldl (λo a=>Zb7 (Zb3 p) f a k o) (o.set x k))))/\Only wj.heap.size [g] wj w'):=hdQ (IH.out m qo qo wj k _ HBJ.out qo qo qo q1 q2 q3 HU.out (by
     have:∀ (l:List Nat) (o':List Int),(l.foldl (λo a=>Zb7 (Zb3 p) f a k o) o').length=o'.length:=by
      intro l
      induction l with
      | nil=>intro o';rfl
      | cons a l ihl=>intro o';rw [List.foldl_cons,ihl,visitF_len]
     rw [this,List.length_set];exact hol))
    have HNX:=qh ((((Zb3 p).getD x []).take (t+1)).foldl (λo a=>Zb7 (Zb3 p) f a k o) (o.set x k)=Zb7 (Zb3 p) f m k ((((Zb3 p).getD x []).take t).foldl (λo a=>Zb7 (Zb3 p) f a k o) (o.set x k))) (by rw [List.take_succ_eq_append_getElem h',List.foldl_append,hga];rfl)
    have j1:(t:Int)<args.length:=qo
    clear hcell2 hm hga
    go_wp2_with (first|(refine HC.out.mono ?_;rintro e w' ⟨rfl,hu,hOn⟩;have HU3:=hdQ hu;have HON3:=hdQ (HON.out.trans hOn hzj (λx h=>h));clear hu hOn)|fail)
    go_roundw
    case rel=>exact ⟨t+1,qo,qg,by rw [HNX.out];exact HU3.out,HON3.out⟩
    case measure=>exact qn
   ·obtain rfl:t=args.length:=by omega
    have HUX:=qh (Own wj g 3 (ints (Zb7 (Zb3 p) (f+1) x k o))) (by rw [HVF.out];have:=HU.out;rw [List.take_of_length_le (by rw [HGL.out];exact Nat.le_refl _)] at this;exact this)
    go_wp2_with fail
    exact bodyPost_end (v:=.tuple #[]) (by simp [results,Tryz.results248,go_sem]) rfl ⟨rfl,HUX.out,HON.out⟩
theorem I_owners {A A2:Option Addr} {c c2:Nat} {p:Zae} (w:World) (h:Zdl w A c A2 c2 p) (hv:Zat p=true) :
  Calls Tryz.prog 199 #[Zbs A p.1.length c A2 p.2.length c2] w λe w'=>∃ g,e=.returned (sl g p.1.length)/\Own w' g 3 (ints (ownP p))/\w.heap.size<=g/\Below w.heap.size w w':=by
 have H0:=hdQ h
 have HV:=hdQ hv
 have h1:=Zb8 hv
 have h2:=Zbw hv
 have HVIS:Hid (∀ {g bo bp bv:Nat} (hg:w.heap.size<=g) (ho:w.heap.size<=bo) (hp:w.heap.size<=bp) (hb:w.heap.size<=bv) (n1:bo≠g) (n2:bp≠g) (n3:bv≠g),∀ x,x<p.1.length->∀ (wx:World) (k:Int) (o:List Int),Below w.heap.size w wx->bo<wx.heap.size->bp<wx.heap.size->bv<wx.heap.size->wx.cell? ⟨bo,0,none⟩=some (sl g p.1.length)->wx.cell? ⟨bp,0,none⟩=some (.slice A p.1.length c)->wx.cell? ⟨bv,0,none⟩=some (vVisit bo bp bv)->Own wx g 3 (ints o)->o.length=p.1.length ->
   Calls Tryz.prog 248 #[.int .i64 x,.int .i64 k,.pointer (some ⟨bo,0,none⟩),.pointer (some ⟨bp,0,none⟩),.pointer (some ⟨bv,0,none⟩)] wx λe w'=>e=.returned (.tuple #[])/\Own w' g 3 (ints (Zb7 (Zb3 p) p.1.length x k o))/\Only wx.heap.size [g] wx w'):=hdQ (λhg ho hp hb n1 n2 n3 x hx=>I_visit w h.1 (Za7 hv) (Zb8 hv) hg ho hp hb n1 n2 n3 p.1.length x hx hx)
 clear h hv
 have hmk:∀ wx:World,(Instr.makeSlice 24 (.int .i64 p.1.length) (.int .i64 p.1.length)).run Tryz.prog wx=.ok (.slice (some ⟨wx.heap.size,0,none⟩) p.1.length p.1.length) (wx.alloc (.cells (madeCells #[Value.int .i64 0] p.1.length) 3)):=by
  intro wx
  have:=run_mk (P:=Tryz.prog) 24 3 _ 1 8 Tryz.underlying24 T.infoInt p.1.length qo qo wx
  simp only [Nat.mul_one] at this
  exact this
 have HZ:=qh ((madeCells #[Value.int .i64 0] p.1.length).toList=ints (Zen (Zb3 p) p.1.length (Zds p) 0)) (by rw [Zen,zeros_ints])
 go_enter Tryz.func199,Tryz.ntmps199
 go_wp2_with fail
 clear hmk
 go_loopw [5,6,15] (λ_ _ i wr=>∃ j:Nat,j<=p.2.length/\i=.int .i64 j/\Own wr w.heap.size 62 [.slice A p.1.length c,.slice A2 p.2.length c2]/\Own wr (w.heap.size+1) 3 (ints (Zen (Zb3 p) p.1.length (Zds p) j))/\Own wr (w.heap.size+1+1) 24 [sl (w.heap.size+1) p.1.length]/\Own wr (w.heap.size+1+1+1) 260 [vVisit (w.heap.size+1+1) w.heap.size (w.heap.size+1+1+1)]/\Below w.heap.size w wr) (λ_ _ i _=>p.2.length-(RowKit.intOf i).toNat)
 case atStart =>
  refine ⟨0,Nat.zero_le _,rfl, ?_, ?_, ?_, ?_,bll⟩
  ·first|(refine Own.alloc (Own.alloc (Own.alloc (Own.at_new ?_) _) _) _;rfl)|fail
  ·rw [<- HZ.out];first|(refine Own.alloc (Own.alloc (Own.at_new ?_) _) _;simp)|fail
  ·first|(refine Own.alloc (Own.at_new (cs := #[_]) ?_) _;simp)|fail
  ·first|(refine Own.at_new (cs := #[_]) ?_;simp)|fail
 case round =>
  obtain ⟨j,hj,rfl,hp,hu,ho,hf,hb⟩:=hrel
  obtain ⟨wo,rfl⟩:=qe wr
  have hz:=hb.size
  have hl:=hf.lt
  have HP:=hdQ hp
  have HU:=hdQ hu
  have HO:=hdQ ho
  have HF:=hdQ hf
  have HB:=hdQ hb
  have p1:wo.cell? ⟨w.heap.size,1,none⟩=some (.slice A2 p.2.length c2):=hp.cell 1
  have p2:wo.cell? ⟨w.heap.size+1+1,0,none⟩=some (sl (w.heap.size+1) p.1.length):=ho.cell 0
  have p3:wo.cell? ⟨w.heap.size+1+1+1,0,none⟩=some (vVisit (w.heap.size+1+1) w.heap.size (w.heap.size+1+1+1)):=hf.cell 0
  have HOL:=qh ((Zen (Zb3 p) p.1.length (Zds p) j).length=p.1.length) (ownTo_len _ _ _ _)
  clear hp hb hu ho hf HZ
  by_cases hlj:j<p.2.length
  ·obtain ⟨b,o,rfl,hbh,hs,x0,x1⟩:=H0.out.2.2.2 j hlj
   have d0:=(HB.out.cell (p:=⟨b,o+j*2,none⟩) hbh).trans x0
   have d1:=(HB.out.cell (p:=⟨b,o+j*2+1,none⟩) hbh).trans x1
   obtain ⟨m,hm,hmn,hr⟩:=root_is HV.out hlj
   rw [hm] at d1
   have HNX:=qh (Zen (Zb3 p) p.1.length (Zds p) (j+1)=Zb7 (Zb3 p) p.1.length m j (Zen (Zb3 p) p.1.length (Zds p) j)) (by rw [Zen,hr])
   have HVC:=qh (∀ wx,Below w.heap.size w wx->Own wx w.heap.size 62 [.slice A p.1.length c,.slice (some ⟨b,o,none⟩) p.2.length c2]->Own wx (w.heap.size+1) 3 (ints (Zen (Zb3 p) p.1.length (Zds p) j))->Own wx (w.heap.size+1+1) 24 [sl (w.heap.size+1) p.1.length]->Own wx (w.heap.size+1+1+1) 260 [vVisit (w.heap.size+1+1) w.heap.size (w.heap.size+1+1+1)] ->
     Calls Tryz.prog 248 #[.int .i64 m,.int .i64 j,.pointer (some ⟨w.heap.size+1+1,0,none⟩),.pointer (some ⟨w.heap.size,0,none⟩),.pointer (some ⟨w.heap.size+1+1+1,0,none⟩)] wx λe w'=>e=.returned (.tuple #[])/\Own w' (w.heap.size+1) 3 (ints (Zen (Zb3 p) p.1.length (Zds p) (j+1)))/\Only wx.heap.size [w.heap.size+1] wx w') (λwx hb h1 h2 h3 h4=>by
    rw [HNX.out]
    exact HVIS.out qo qo qo qo qo qo qo m hmn wx j _ hb h3.lt h1.lt h4.lt (h3.cell 0) (h1.cell 0) (h4.cell 0) h2 HOL.out)
   have i1:(j:Int)<p.2.length:=qo
   generalize hnm:p.2[j].1=nm at *
   clear x0 x1 hm hs hnm hr
   go_wp2_with (first|(refine (HVC.out _ bll (owx HP.out) (owx HU.out) (owx HO.out) (owx HF.out)).mono ?_;rintro e w' ⟨rfl,hu,hOn⟩;have HU3:=hdQ hu;have HON3:=hdQ hOn;clear hu hOn)|fail)
   have HP3:=qh (Own w' w.heap.size 62 [.slice A p.1.length c,.slice (some ⟨b,o,none⟩) p.2.length c2]) (HON3.out.own (owx HP.out) omm (by simp<;>omega))
   have HO3:=qh (Own w' (w.heap.size+1+1) 24 [sl (w.heap.size+1) p.1.length]) (HON3.out.own (owx HO.out) omm (by simp<;>omega))
   have HF3:=qh (Own w' (w.heap.size+1+1+1) 260 [vVisit (w.heap.size+1+1) w.heap.size (w.heap.size+1+1+1)]) (HON3.out.own (owx HF.out) omm (by simp<;>omega))
   have HB3:=qh (Below w.heap.size w w') (Below.trans bll (HON3.out.below omm qs))
   (try go_wp2_with fail)
   go_roundw
   case rel=>exact ⟨j+1,qo,qg,HP3.out,HU3.out,HO3.out,HF3.out,HB3.out⟩
   case measure=>exact qn
  ·obtain rfl:j=p.2.length:=by omega
   have HUE:=qh (Own wo (w.heap.size+1) 3 (ints (ownP p))) (by have:=HU.out;rw [<- ownP_I HV.out];unfold ownI;rw [Zbt,show (Zds p).length=p.2.length by simp [Zds]];exact this)
   go_wp2_with fail
   go_ret
   exact ⟨_,rfl,HUE.out,qo,HB.out⟩
end Go.Proofs.YticdknjoapdmeaaGreatDoor
