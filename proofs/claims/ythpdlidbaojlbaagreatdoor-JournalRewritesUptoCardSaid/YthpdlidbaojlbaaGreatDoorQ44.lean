/- The contract of strconv.ParseFloat, from atof64's. -/
import Derived.Test.YthpdlidbaojlbaaGreatDoorQ26
set_option linter.unusedVariables false
set_option linter.unusedSimpArgs false
set_option maxHeartbeats 4000000
open Go.ChangeShapes Go.WideShapes Go.ChangeAt Go.RowKit
namespace Go.Proofs.YthpdlidbaojlbaaGreatDoor
namespace fl
set_option maxRecDepth 100000 in
theorem EA (s:ByteArray) (neg:Bool) (m:List Nat) (p:Bool) (E:Int) (w:World) (h:Pd s neg m p E):
  Calls Tryz.prog 257 #[.string s] w fun e w'=>e=.returned (.tuple #[.int .u64 (rf m).qa,.int .i64 (nP m E),.bool neg,.bool (rf m).tr,.bool false,.int .i64 s.size,.bool true])∧∃ n,w'=w.drewN n:=by
 obtain⟨⟨sg,xs,hb,hsg,hx⟩,hm,hdig,hlen⟩:=h;have hA:=PI hb
 have hM0:0<m.length:=by
  rcases iu m with h|⟨l,c,h⟩
  ·rw[h] at hdig;cases hdig
  ·rw[h];simp
 obtain⟨a,ha⟩:∃ a,sg.length=a:=⟨_,rfl⟩;obtain⟨n,hn⟩:∃ n,s.size=n:=⟨_,rfl⟩;obtain⟨M,hM⟩:∃ M,m.length=M:=⟨_,rfl⟩;obtain⟨X,hX⟩:∃ X,xs.length=X:=⟨_,rfl⟩;rw[ha] at hA;have hlenA:=hA.len;rw[hM,hX] at hlenA;rw[hM] at hM0;have hn0:0<s.size:=by omega
 have ha1:a≤1:=by rw[←ha];rcases hsg with h|h|h<;>rw[h.1]<;>decide
 have hc0:s[0].toNat=(bl s).getD 0 0:=qD s 0 hn0
 have XN:Hid ((((s[0].toNat:Int) == 43)=true∧a=1∧neg=false)∨(((s[0].toNat:Int) == 43)=false∧((s[0].toNat:Int) == 45)=true∧a=1∧neg=true)∨(((s[0].toNat:Int) == 43)=false∧((s[0].toNat:Int) == 45)=false∧a=0∧neg=false)):=by
  refine aj ?_
  rcases hsg with h|h|h
  ·right;right
   have h1:s[0].toNat=m.getD 0 0:=by
    have h0:a=0:=by rw[←ha,h.1];rfl
    have:=hA.man 0 hn0 (by omega) (by omega)
    rwa [Nat.zero_sub] at this
   obtain⟨q,hq,_⟩:=tE hm 0;have h2:=tF hm 0 (by omega) q hq;rw[h1];have h3:=GD (m.getD 0 0) (by rcases h2 with h2|h2;exact .inl h2;exact .inr h2.1);exact⟨h3.1,h3.2,by rw[←ha,h.1];rfl,h.2⟩
  ·left;rw[hc0,hb,h.1];exact⟨rfl,by rw[←ha,h.1];rfl,h.2⟩
  ·right;left;rw[hc0,hb,h.1];exact⟨rfl,rfl,by rw[←ha,h.1];rfl,h.2⟩
 have HA:=aj hA;have HM:=aj hm;have HX:=aj hx;have zz:=aj hM;have SV:=aj hX;have HD:=aj hdig;clear hsg hb hA hc0 hm hx hM hX hdig ha hn;go_enter Tryz.func257,Tryz.ntmps257
 go_wp2_with fail
 go_step3
 go_upto_block 0 with fail
 go_cut [7,4] (fun i ng wx=>i=.int .i64 (a:Int)∧ng=.bool neg∧wx=w)
 case first=>as_aux_lemma=>
  rcases XN.out with⟨h1,h2,h3⟩|⟨h1,h1',h2,h3⟩|⟨h1,h2,h3,h4⟩
  ·subst h2 h3;go_wp2_with fail
   go_meet;exact⟨rfl,rfl,rfl⟩
  ·subst h2 h3;go_wp2_with fail
   go_meet;exact⟨rfl,rfl,rfl⟩
  ·subst h3 h4;go_wp2_with fail
   go_meet;exact⟨rfl,rfl,rfl⟩
 case rest=>as_aux_lemma=>
  obtain⟨rfl,rfl,rfl⟩:=hcut
  go_upto_region 12 with fail
  go_cut [54] (fun t wx=>t=.bool false∧wx=wc)
  case first=>as_aux_lemma=>
   by_cases h2:a+2<a+M+X
   ·by_cases h48:s[a].toNat=48
    ·have hne:dX s[a+1].toNat∨s[a+1].toNat=46∨s[a+1].toNat=101∨s[a+1].toNat=69:=by
      by_cases h1:1<M
      ·rw[HA.out.man (a+1) (by rw[HA.out.size];omega) (by omega) (by rw[zz.out];omega),dC];obtain⟨q,hq,_⟩:=tE HM.out 1
       rcases tF HM.out 1 (by rw[zz.out];exact h1) q hq with h|h
       ·exact .inl h
       ·exact .inr (.inl h.1)
      ·have hM1:M=1:=by omega
       rw[HA.out.ex (a+1) (by rw[HA.out.size];omega) (by rw[zz.out];omega),zz.out,hM1,dZ]
       cases HX.out with
       | none=>have:=SV.out;simp at this;omega
       | some hc _ _ _ _=>right;right;simpa using hc
     have hlow:=NU _ hne;have RQ:s[a+1].toNat<256:=UInt8.toNat_lt _;have hc:((s[a].toNat:Int) == 48)=true:=by rw[h48];rfl
     clear hne h48;go_wp2_with (go_at_call 273;refine(KJ _ _ RQ).mono ?_;rintro e w' ⟨rfl,rfl⟩)
     go_meet
     case rel=>exact⟨rfl,rfl⟩
    ·have hc:((s[a].toNat:Int) == 48)=false:=by simp;omega
     clear h48;go_wp2_with fail
     go_meet
     case rel=>exact⟨rfl,rfl⟩
   ·go_wp2_with fail
    go_meet
    case rel=>exact⟨rfl,rfl⟩
  case rest=>as_aux_lemma=>
   obtain⟨rfl,rfl⟩:=hcut;go_wp2_with fail
   go_step3
   go_upto_block 1 with fail
   go_cut [2,5,7,9,13,14,15,16,17] (fun mt tr i un dot dig nd ndm dp wx=>GU m a M wc mt tr i un dot dig nd ndm dp wx)
   case first=>as_aux_lemma=>
    go_wp2_with fail
    go_loopw [2,5,7,9,13,14,15,16,17] (fun mt tr i un dot dig nd ndm dp wx=>∃ j,j≤M∧GU m a j wc mt tr i un dot dig nd ndm dp wx) (fun _ _ i _ _ _ _ _ _ _=>a+M-(intOf i).toNat)
    case atStart=>exact⟨0,by omega,rfl,rf0,rfl,rfl,rfl,rfl,rfl,rfl,rfl,rfl,rfl,rfl⟩
    case round=>
     obtain⟨j,hj,rfl,⟨mt,nd,ndm,dp,dot,dig,tr⟩,hS,rfl,rfl,rfl,rfl,rfl,rfl,rfl,rfl,rfl⟩:=hrel;simp only;have HS:=aj hS;clear hS
     by_cases hlt:j<M
     ·obtain⟨q,hq,XQ⟩:=tE HM.out j;have hnx:=tF HM.out j (by rw[zz.out];exact hlt) q hq;have hok:=ve hq;have o1:=hok.dot;have o2:=hok.dp0;have o3:=hok.ndm;have o4:=hok.nd;have o5:=hok.qa;rw[HS.out] at o1 o2 o3 o4 o5;simp only at o1 o2 o3 o4 o5;have hjl:(m.take j).length=j:=by rw[aR,zz.out];omega
      rw[hjl] at o2 o4;have hjn:a+j<s.size:=by omega
      have hs:s[a+j].toNat=m.getD j 0:=by rw[HA.out.man (a+j) hjn (by omega) (by rw[zz.out];omega),dC]
      have hsn:=wm (m:=m) (j:=j) (by rw[zz.out];exact hlt);have hst:rf (m.take (j+1))=oC ⟨mt,nd,ndm,dp,dot,dig,tr⟩ (m.getD j 0):=by rw[hsn,A8,HS.out]
      obtain⟨c,hc⟩:∃ c,m.getD j 0=c:=⟨_,rfl⟩;rw[hc] at hnx hs hst;have hbd:ndm<19→mt<1000000000000000000:=fun h=>aP o5 (aS (by decide) (show ndm≤18 by omega))
      obtain⟨d1,d2⟩:=o2;have XY:ndm≤19:=by omega
      have hjc:a+j<a+M+X:=by omega
      have HST:=aj hst;have O1:=aj o1;have O3:=aj o3;clear hst hsn hc hq XQ hok o1 o3 o5 hjl
      rcases hnx with hdg|⟨rfl,rfl⟩
      ·obtain⟨g1,g2⟩:=hdg;have n95:((c:Int) == 95)=false:=by simp;omega
       have n46:((c:Int) == 46)=false:=by simp;omega
       have Wi:(48:Int)≤c:=by omega
       have U5:(c:Int)≤57:=by omega
       have yW:c≠46:=by omega
       have hcl:Hid (dX c):=aj ⟨g1,g2⟩
       by_cases h48:c=48
       ·by_cases hz:nd=0
        ·subst h48 hz;have hf:Hid (rf (m.take (j+1))=⟨mt,0,ndm,dp-1,dot,true,tr⟩):=aj (by rw[HST.out];unfold oC;simp);clear HST n95 n46 Wi U5 yW hbd;go_wp2_with fail
         exact⟨⟨j+1,by omega,rd_mk hf.out (by omega) rfl rfl rfl rfl rfl rfl rfl⟩,by simp[intOf];omega⟩
        ·subst h48;have hzi:((nd:Int) == 0)=false:=by simp;omega
         by_cases h19:ndm<19
         ·have hf:Hid (rf (m.take (j+1))=⟨mt*10,nd+1,ndm+1,dp,dot,true,tr⟩):=aj (by rw[HST.out];unfold oC;simp[hz,h19]);have Yt:=hbd h19;have Sb:(ndm:Int)<19:=by omega
          clear HST n95 n46 Wi U5 yW hbd;go_wp2_with fail
          exact⟨⟨j+1,by omega,rd_mk hf.out (by omega) (by omega) (by omega) (by omega) rfl rfl rfl rfl⟩,by simp[intOf];omega⟩
         ·have hf:Hid (rf (m.take (j+1))=⟨mt,nd+1,ndm,dp,dot,true,tr⟩):=aj (by rw[HST.out];unfold oC;simp[hz,h19]);have Sb:(19:Int)≤ndm:=by omega
          clear HST n95 n46 Wi U5 yW hbd;go_wp2_with fail
          exact⟨⟨j+1,by omega,rd_mk hf.out (by omega) (by omega) (by omega) (by omega) rfl rfl rfl rfl⟩,by simp[intOf];omega⟩
       ·have n48:((c:Int) == 48)=false:=by simp;omega
        have abw:((c:Int) != 48)=true:=by simp;omega
        by_cases h19:ndm<19
        ·have hf:Hid (rf (m.take (j+1))=⟨mt*10+(c-48),nd+1,ndm+1,dp,dot,true,tr⟩):=aj (by rw[HST.out];unfold oC;simp[h48,h19,yW]);have Yt:=hbd h19;have Sb:(ndm:Int)<19:=by omega
         clear HST hbd yW;go_wp2_with fail
         exact⟨⟨j+1,by omega,rd_mk hf.out (by omega) (by omega) (by omega) (by omega) rfl rfl rfl rfl⟩,by simp[intOf];omega⟩
        ·have hf:Hid (rf (m.take (j+1))=⟨mt,nd+1,ndm,dp,dot,true,true⟩):=aj (by rw[HST.out];unfold oC;simp[h48,h19,yW]);have Sb:(19:Int)≤ndm:=by omega
         clear HST hbd yW;go_wp2_with fail
         exact⟨⟨j+1,by omega,rd_mk hf.out (by omega) (by omega) (by omega) (by omega) rfl rfl rfl rfl⟩,by simp[intOf];omega⟩
      ·have hd0:dot=false:=O1.out;subst hd0;have hf:Hid (rf (m.take (j+1))=⟨mt,nd,ndm,nd,true,dig,tr⟩):=aj (by rw[HST.out];unfold oC;simp);clear HST hbd;go_wp2_with fail
       exact⟨⟨j+1,by omega,rd_mk hf.out (by omega) rfl rfl rfl rfl rfl rfl rfl⟩,by simp[intOf];omega⟩
     ·obtain rfl:j=M:=by omega
      have hrel:Hid (GU m a j wr (.int .u64 mt) (.bool tr) (.int .i64 ((a+j:Nat):Int)) (.bool false) (.bool dot) (.bool dig) (.int .i64 nd) (.int .i64 ndm) (.int .i64 dp) wr):=aj (rd_mk HS.out (by omega) rfl rfl rfl rfl rfl rfl rfl)
      by_cases hX0:X=0
      ·subst hX0;go_wp2_with fail
       go_meet
       case rel=>exact hrel.out
      ·have hjn:a+j<s.size:=by omega
       have hs:s[a+j].toNat=xs.getD 0 0:=by rw[HA.out.ex (a+j) hjn (by rw[zz.out];omega),zz.out,dZ]
       have hce:xs.getD 0 0=101∨xs.getD 0 0=69:=by
        cases HX.out with
        | none=>have:=SV.out;simp at this;omega
        | some hc _ _ _ _=>simpa using hc
       obtain⟨c,hc⟩:∃ c,xs.getD 0 0=c:=⟨_,rfl⟩;rw[hc] at hs hce;have n95:((c:Int) == 95)=false:=by simp;omega
       have n46:((c:Int) == 46)=false:=by simp;omega
       have U5:(57:Int)<c:=by omega
       have hjc:a+j<a+j+X:=by omega
       clear hc hce;go_wp2_with fail
       go_meet
       case rel=>exact hrel.out
   case rest=>as_aux_lemma=>
    obtain⟨rfl,⟨mt,nd,ndm,dp,dot,dig,tr⟩,hS,rfl,rfl,rfl,rfl,rfl,rfl,rfl,rfl,rfl⟩:=hcut;rw[aE (by rw[zz.out];exact aq _)] at hS;have hok:=ve HM.out;have o1:=hok.dp0;have o2:=hok.ndm;have o3:=hok.nd;have o4:=HD.out;obtain⟨Ox,RZ⟩:∃ d,Np m=d:=⟨_,rfl⟩;have hdv:Hid (Ox=if dot then dp else nd):=aj (by rw[←RZ];unfold Np;rw[hS]);rw[hS] at o1 o2 o3 o4;simp only at o1 o2 o3 o4 ⊢;subst o4;rw[zz.out] at o1 o3;obtain⟨d1,d2⟩:=o1;have hdb:-100≤Ox∧Ox≤100:=by rw[hdv.out];split<;>omega
    obtain⟨d3,d4⟩:=hdb;have XY:ndm≤19:=by omega
    have HS:=aj hS;have Jk:=aj RZ;clear hS hok o2 RZ
    go_upto_if 142 with fail
    go_cut [17] (fun t wx=>t=.int .i64 Ox∧wx=wc)
    case first=>as_aux_lemma=>
     cases dot
     ·have:=hdv.out;simp at this;subst this;go_wp2_with fail
      go_meet
      case rel=>exact⟨rfl,rfl⟩
     ·have:=hdv.out;simp at this;subst this;go_wp2_with fail
      go_meet
      case rel=>exact⟨rfl,rfl⟩
    case rest=>as_aux_lemma=>
     obtain⟨rfl,rfl⟩:=hcut
     by_cases hX0:X=0
     ·subst hX0
      have hE:E=0:=by
       cases HX.out with
       | none=>rfl
       | some _ _ _ _ _=>have:=SV.out;simp at this
      by_cases hz:mt=0
      ·subst hz;have hfx:Hid (nP m E=0):=aj (by unfold nP;rw[HS.out];rfl);go_wp2_with fail
       rw[Exit.noGoto_ret];refine gH (v:=.tuple #[.int .u64 ((0:Nat):Int),.int .i64 0,.bool neg,.bool tr,.bool false,.int .i64 ((a+M:Nat):Int),.bool true]) (by simp[results,Tryz.results257,go_sem]) rfl ⟨A9 HS.out rfl rfl hfx.out (by omega),0,rfl⟩
      ·have hfx:Hid (nP m E=Ox-ndm):=aj (by unfold nP;rw[HS.out,hE];simp only;rw[aJ hz,←Jk.out];unfold Np;rw[HS.out];simp only;omega)
       have hzi:((mt:Int) != 0)=true:=by simp;omega
       go_wp2_with fail
       rw[Exit.noGoto_ret];refine gH (v:=.tuple #[.int .u64 mt,.int .i64 (Ox-ndm),.bool neg,.bool tr,.bool false,.int .i64 ((a+M:Nat):Int),.bool true]) (by simp[results,Tryz.results257,go_sem]) rfl ⟨A9 HS.out rfl rfl hfx.out (by omega),0,rfl⟩
     ·have hex:∃ (c:Nat) (sg ds:List Nat) (en:Bool) (f:Nat),(c=101∨c=69)∧xs=c::(sg++ds)∧(sg=[]∧en=false∨sg=[43]∧en=false∨sg=[45]∧en=true)∧sg.length=f∧ExD s (a+M+1+f) ds∧E=(if en then -(cX ds:Int) else cX ds):=by
       cases HX.out with
       | none=>have:=SV.out;simp at this;omega
       | @some c sg ds en hc hsg h1 h5 hdg=>
        have hXl:=SV.out;simp at hXl;refine⟨c,sg,ds,en,_,hc,rfl,hsg,rfl,⟨by omega,h1,h5,hdg,fun k h hk=>?_⟩,rfl⟩;rw[HA.out.ex k h (by rw[zz.out];omega),zz.out,az];obtain⟨t,ht⟩:∃ t,k-(a+M)=t+1:=⟨k-(a+M)-1,by omega⟩;rw[ht,List.getElem?_cons_succ,bN (by omega),←az]
        congr 1;omega
      obtain⟨c,sg,ds,en,f,hc,hxs,hsg,hf,hD,hE⟩:=hex;obtain⟨L,hL⟩:∃ L,ds.length=L:=⟨_,rfl⟩;have UJ:=hD.len;have l1:=hD.one;have l5:=hD.Oi;rw[hL] at UJ l1 l5;have hf1:f≤1:=by rw[←hf];rcases hsg with h|h|h<;>rw[h.1]<;>decide
      obtain rfl:X=1+f+L:=by omega
      have h0n:a+M<s.size:=by omega
      have h1n:a+M+1<s.size:=by omega
      have hgn:a+M+1+f<s.size:=by omega
      have hs0:s[a+M].toNat=c:=by rw[HA.out.ex (a+M) h0n (by rw[zz.out];omega),zz.out,dZ,hxs];rfl
      have hs1:f=1→s[a+M+1].toNat=sg.getD 0 0:=by intro h;rw[HA.out.ex (a+M+1) h1n (by rw[zz.out];omega),zz.out,dC,hxs];rw[az,List.getElem?_cons_succ,b8 (by omega),←az]
      have hsd:=hD.at' (a+M+1+f) hgn (aq _);rw[dZ] at hsd
      have hd0:dX (ds.getD 0 0):=by refine hD.dig _ ?_;rw[az,ag (by omega)];simp
      obtain⟨d0,UP⟩:∃ d,ds.getD 0 0=d:=⟨_,rfl⟩;rw[UP] at hsd hd0;obtain⟨g1,g2⟩:=hd0;have hlow:((c ||| 32:Nat):Int)=101:=by rcases hc with rfl|rfl<;>decide
      have hc256:c<256:=by omega
      have hE2:=aj hE;have xX:=aj hD;have Mz:=aj hL
      have Uy:Hid ((f=0∧en=false)∨(f=1∧en=false∧s[a+M+1].toNat=43)∨(f=1∧en=true∧s[a+M+1].toNat=45)):=aj (by
       rcases hsg with⟨h,h'⟩|⟨h,h'⟩|⟨h,h'⟩
       ·left;exact⟨by rw[←hf,h];rfl,h'⟩
       ·right;left
        have:f=1:=by rw[←hf,h];rfl
        exact⟨this,h',by rw[hs1 this,h];rfl⟩
       ·right;right
        have:f=1:=by rw[←hf,h];rfl
        exact⟨this,h',by rw[hs1 this,h];rfl⟩)
      clear hc hxs hsg hf hD hE hL hs1 UP
      go_upto_if 161 with(go_at_call 273;refine(KJ _ _ hc256).mono ?_;rintro e w' ⟨rfl,rfl⟩)
      go_cut [7,9,17] (fun i un t wx=>i=.int .i64 s.size∧un=.bool false∧t=.int .i64 (Ox+E)∧wx=wc)
      case first=>as_aux_lemma=>
       go_upto_block 4 with fail
       go_cut [7,19] (fun i es wx=>i=.int .i64 ((a+M+1+f:Nat):Int)∧es=.int .i64 (if en then -1 else 1)∧wx=wc)
       case first=>as_aux_lemma=>
        rcases Uy.out with⟨rfl,rfl⟩|⟨rfl,rfl,hb⟩|⟨rfl,rfl,hb⟩
        ·have n43:((s[a+M+1].toNat:Int) == 43)=false:=by have:s[a+M+1].toNat=d0:=hsd;rw[this];simp;omega
         have n45:((s[a+M+1].toNat:Int) == 45)=false:=by have:s[a+M+1].toNat=d0:=hsd;rw[this];simp;omega
         clear hsd;go_wp2_with fail
         go_meet
         case rel=>exact⟨rfl,rfl,rfl⟩
        ·have n43:((s[a+M+1].toNat:Int) == 43)=true:=by rw[hb];rfl
         clear hsd hb;go_wp2_with fail
         go_meet
         case rel=>exact⟨rfl,rfl,rfl⟩
        ·have n43:((s[a+M+1].toNat:Int) == 43)=false:=by rw[hb];rfl
         have n45:((s[a+M+1].toNat:Int) == 45)=true:=by rw[hb];rfl
         clear hsd hb;go_wp2_with fail
         go_meet
         case rel=>exact⟨rfl,rfl,rfl⟩
       case rest=>as_aux_lemma=>
        obtain⟨rfl,rfl,rfl⟩:=hcut;have Wi:(48:Int)≤d0:=by omega
        have U5:(d0:Int)≤57:=by omega
        clear hs0 Uy;cases en
        ·go_wp2_with fail
         go_loopw [7,9,20] (fun i un ev wx=>∃ j,j≤L∧i=.int .i64 ((a+M+1+f+j:Nat):Int)∧un=.bool false∧ev=.int .i64 (cX (ds.take j):Int)∧wx=wc) (fun i _ _ _=>a+M+1+f+L-(intOf i).toNat)
         case atStart=>exact⟨0,by omega,congrArg (Value.int IntKind.i64) (by omega),rfl,rfl,rfl⟩
         case round=>
          obtain⟨j,hj,rfl,rfl,rfl,rfl⟩:=hrel
          by_cases hlt:j<L
          ·have hjn:a+M+1+f+j<s.size:=by omega
           have hs:s[a+M+1+f+j].toNat=ds.getD j 0:=by rw[xX.out.at' (a+M+1+f+j) hjn (by omega),dC]
           have hsn:cX (ds.take (j+1))=cX (ds.take j)*10+(ds.getD j 0-48):=by
            have hdj:dX (ds.getD j 0):=by refine xX.out.dig _ ?_;rw[az,ag (by rw[Mz.out];exact hlt)];simp
            rw[wm (by rw[Mz.out];exact hlt),ja,aJ (by unfold dX at hdj;omega)]
           have hcd:dX (ds.getD j 0):=by refine xX.out.dig _ ?_;rw[az,ag (by rw[Mz.out];exact hlt)];simp
           have hev:cX (ds.take j)<10000:=by
            have h1:=kD (ds.take j) (fun x hx=>xX.out.dig x (gL hx));have h2:(ds.take j).length≤4:=by rw[aR];omega
            exact aP h1 (aS (by decide) h2)
           obtain⟨cj,hcj⟩:∃ c,ds.getD j 0=c:=⟨_,rfl⟩;rw[hcj] at hs hsn hcd;obtain⟨k1,k2⟩:=hcd;have k1i:(48:Int)≤cj:=by omega
           have k2i:(cj:Int)≤57:=by omega
           have n95:((cj:Int) == 95)=false:=by simp;omega
           obtain⟨ev,nZ⟩:∃ v,cX (ds.take j)=v:=⟨_,rfl⟩;rw[nZ] at hsn hev;simp only[nZ];have MQ:=aj hsn;have Ym:(ev:Int)<10000:=by omega
           clear hsn hcj nZ;go_wp2_with fail
           exact⟨⟨j+1,by omega,congrArg (Value.int IntKind.i64) (by omega),(by first|rfl|trivial),congrArg (Value.int IntKind.i64) (by rw[MQ.out];omega),(by first|rfl|trivial)⟩,by simp[intOf];omega⟩
          ·obtain rfl:j=L:=by omega
           have hdn:cX (ds.take j)=cX ds:=by rw[aE (by rw[Mz.out];exact aq _)]
           have hdb:cX ds<100000:=aP (kD ds xX.out.dig) (aS (by decide) xX.out.Oi);obtain⟨ev,nZ⟩:∃ v,cX ds=v:=⟨_,rfl⟩;rw[hdn,nZ];rw[nZ] at hdb;have TG:=aj nZ;clear hdn nZ;go_wp2_with fail
           go_meet
           case rel=>exact⟨congrArg (Value.int IntKind.i64) (by omega),(by first|rfl|trivial),congrArg (Value.int IntKind.i64) (by rw[hE2.out,TG.out];simp;try omega),(by first|rfl|trivial)⟩
        ·go_wp2_with fail
         go_loopw [7,9,20] (fun i un ev wx=>∃ j,j≤L∧i=.int .i64 ((a+M+1+f+j:Nat):Int)∧un=.bool false∧ev=.int .i64 (cX (ds.take j):Int)∧wx=wc) (fun i _ _ _=>a+M+1+f+L-(intOf i).toNat)
         case atStart=>exact⟨0,by omega,congrArg (Value.int IntKind.i64) (by omega),rfl,rfl,rfl⟩
         case round=>
          obtain⟨j,hj,rfl,rfl,rfl,rfl⟩:=hrel
          by_cases hlt:j<L
          ·have hjn:a+M+1+f+j<s.size:=by omega
           have hs:s[a+M+1+f+j].toNat=ds.getD j 0:=by rw[xX.out.at' (a+M+1+f+j) hjn (by omega),dC]
           have hsn:cX (ds.take (j+1))=cX (ds.take j)*10+(ds.getD j 0-48):=by
            have hdj:dX (ds.getD j 0):=by refine xX.out.dig _ ?_;rw[az,ag (by rw[Mz.out];exact hlt)];simp
            rw[wm (by rw[Mz.out];exact hlt),ja,aJ (by unfold dX at hdj;omega)]
           have hcd:dX (ds.getD j 0):=by refine xX.out.dig _ ?_;rw[az,ag (by rw[Mz.out];exact hlt)];simp
           have hev:cX (ds.take j)<10000:=by
            have h1:=kD (ds.take j) (fun x hx=>xX.out.dig x (gL hx));have h2:(ds.take j).length≤4:=by rw[aR];omega
            exact aP h1 (aS (by decide) h2)
           obtain⟨cj,hcj⟩:∃ c,ds.getD j 0=c:=⟨_,rfl⟩;rw[hcj] at hs hsn hcd;obtain⟨k1,k2⟩:=hcd;have k1i:(48:Int)≤cj:=by omega
           have k2i:(cj:Int)≤57:=by omega
           have n95:((cj:Int) == 95)=false:=by simp;omega
           obtain⟨ev,nZ⟩:∃ v,cX (ds.take j)=v:=⟨_,rfl⟩;rw[nZ] at hsn hev;simp only[nZ];have MQ:=aj hsn;have Ym:(ev:Int)<10000:=by omega
           clear hsn hcj nZ;go_wp2_with fail
           exact⟨⟨j+1,by omega,congrArg (Value.int IntKind.i64) (by omega),(by first|rfl|trivial),congrArg (Value.int IntKind.i64) (by rw[MQ.out];omega),(by first|rfl|trivial)⟩,by simp[intOf];omega⟩
          ·obtain rfl:j=L:=by omega
           have hdn:cX (ds.take j)=cX ds:=by rw[aE (by rw[Mz.out];exact aq _)]
           have hdb:cX ds<100000:=aP (kD ds xX.out.dig) (aS (by decide) xX.out.Oi);obtain⟨ev,nZ⟩:∃ v,cX ds=v:=⟨_,rfl⟩;rw[hdn,nZ];rw[nZ] at hdb;have TG:=aj nZ;clear hdn nZ;go_wp2_with fail
           go_meet
           case rel=>exact⟨congrArg (Value.int IntKind.i64) (by omega),(by first|rfl|trivial),congrArg (Value.int IntKind.i64) (by rw[hE2.out,TG.out];simp;try omega),(by first|rfl|trivial)⟩
      case rest=>as_aux_lemma=>
       obtain⟨rfl,rfl,rfl,rfl⟩:=hcut;have hdb:cX ds<100000:=aP (kD ds xX.out.dig) (aS (by decide) xX.out.Oi);obtain⟨hE3,hE4⟩:-100000≤E∧E≤100000:=by rw[hE2.out];split<;>omega
       by_cases hz:mt=0
       ·subst hz;have hfx:Hid (nP m E=0):=aj (by unfold nP;rw[HS.out];rfl);go_wp2_with fail
        rw[Exit.noGoto_ret];refine gH (v:=.tuple #[.int .u64 ((0:Nat):Int),.int .i64 0,.bool neg,.bool tr,.bool false,.int .i64 s.size,.bool true]) (by simp[results,Tryz.results257,go_sem]) rfl ⟨A9 HS.out rfl rfl hfx.out rfl,0,rfl⟩
       ·have hfx:Hid (nP m E=Ox+E-ndm):=aj (by unfold nP;rw[HS.out];simp only;rw[aJ hz,←Jk.out];unfold Np;rw[HS.out])
        have hzi:((mt:Int) != 0)=true:=by simp;omega
        go_wp2_with fail
        rw[Exit.noGoto_ret];refine gH (v:=.tuple #[.int .u64 mt,.int .i64 (Ox+E-ndm),.bool neg,.bool tr,.bool false,.int .i64 s.size,.bool true]) (by simp[results,Tryz.results257,go_sem]) rfl ⟨A9 HS.out rfl rfl hfx.out rfl,0,rfl⟩
theorem Vf (s:ByteArray) (c:Nat) (w:World) (h0:0<s.size) (hs:s[0].toNat=c) (hc:c<65) (hlen:s.size≤1000):
  Calls Tryz.prog 270 #[.string s,.string ⟨#[105,110,102,105,110,105,116,121]⟩] w fun e w'=>e=.returned (.int .i64 0)∧w=w':=by
 have hci:(c:Int)<65:=by omega
 have hne:((c:Int) != (((⟨#[105,110,102,105,110,105,116,121]⟩:ByteArray)[0]'(by decide)).toNat:Int))=true:=by
  show((c:Int) != 105)=true
  rw[bne_iff_ne];omega
 have hmin:(0:Int)<min 8 (s.size:Int):=by omega
 go_enter Tryz.func270,Tryz.ntmps270
 go_wp2
 go_loop [6] (fun i=>i=.int .i64 0) (fun _=>0)
 case atStart=>exact rfl
 case round=>
  obtain rfl:=hrel;go_wp2
  go_ret;exact⟨rfl,rfl⟩
theorem JI (s:ByteArray) (w:World) (h0:0<s.size) (hlen:s.size≤1000)
  (h:(((s[0].toNat:Int) == 43)=true∨((s[0].toNat:Int) == 45)=true)∧(∃ h1:1<s.size,s[1].toNat<65)∨s[0].toNat<65∧((s[0].toNat:Int) == 43)=false∧((s[0].toNat:Int) == 45)=false):
  Calls Tryz.prog 256 #[.string s] w fun e w'=>e=.returned (.tuple #[.float .f64 0,.int .i64 0,.bool false])∧w=w':=by
 have hz:((s.size:Int) == 0)=false:=fc.2 (by omega)
 rcases h with⟨h,h1,h2⟩|⟨h1,h2,h3⟩
 ·have hs:(s.extract 1 s.size).size=s.size-1:=by simp
  have hx0:0<(s.extract 1 s.size).size:=by omega
  have hx:(s.extract 1 s.size)[0].toNat=s[1].toNat:=by rw[ByteArray.getElem_extract]
  have cp:=fun w=>Vf (s.extract 1 s.size) _ w hx0 hx h2 (by omega)
  clear hs hx0 hx
  rcases h with h|h
  ·have n45:((s[0].toNat:Int) == 45)=false:=fc.2 (by have:=mH.1 h;omega);go_enter Tryz.func256,Tryz.ntmps256
   go_wp2_with (go_at_call 270;refine(cp _).mono ?_;rintro e w' ⟨rfl,rfl⟩)
   go_outline
   go_ret3
   exact⟨rfl,rfl⟩
  ·have n43:((s[0].toNat:Int) == 43)=false:=fc.2 (by have:=mH.1 h;omega);go_enter Tryz.func256,Tryz.ntmps256
   go_wp2_with (go_at_call 270;refine(cp _).mono ?_;rintro e w' ⟨rfl,rfl⟩)
   go_ret3
   exact⟨rfl,rfl⟩
 ·have n105:((s[0].toNat:Int) == 105)=false:=fc.2 (by omega);have n73:((s[0].toNat:Int) == 73)=false:=fc.2 (by omega);have n110:((s[0].toNat:Int) == 110)=false:=fc.2 (by omega);have n78:((s[0].toNat:Int) == 78)=false:=fc.2 (by omega);go_enter Tryz.func256,Tryz.ntmps256
  go_wp2
  go_ret3
  exact⟨rfl,rfl⟩
structure FO (w:World):Prop where
 ft:FT w
 opt:w.cell? ⟨8,0,none⟩=some (.bool true)
 tab:P10 w
 er:∃ ev,w.cell? ⟨6,0,none⟩=some ev∧(ev=.nilIface∨∃ te pe,ev=.iface te pe)
theorem FO.on {w w':World} (h:FO w) (hb:Below w.heap.size w w'):FO w':=by
 have k:∀ {p:Addr} {v:Value},w.cell? p=some v→w'.cell? p=some v:=fun hc=>(hb.cell (du _ _ hc)).trans hc
 obtain⟨g,o,g1,g2⟩:=h.ft.p10;exact⟨⟨k h.ft.info,g,o,k g1,fun i hi=>k (g2 i hi)⟩,k h.opt,fun i hi=>⟨k (h.tab i hi).1,k (h.tab i hi).2⟩,h.er.elim fun ev he=>⟨ev,k he.1,he.2⟩⟩
theorem FO.drewN {w:World} (h:FO w) (n:Nat):FO (w.drewN n):=h.on (Go.below_drewN (Below.refl _ _) n)
def pf3 (neg:Bool) (u:Nat) (n:Int):Value:=if u<cD then .tuple #[.float .f64 (sgw neg+u),.int .i64 n,.nilIface] else .tuple #[.float .f64 (sgw neg+cD),.int .i64 n,.iface 324 (.int .i64 1)]
theorem wC {neg:Bool} {u:Nat} {n:Int} (h:u<cD):pf3 neg u n=.tuple #[.float .f64 (sgw neg+u),.int .i64 n,.nilIface]:=aQ h
theorem Bf {neg:Bool} {u:Nat} {n:Int} (h:cD≤u):pf3 neg u n=.tuple #[.float .f64 (sgw neg+cD),.int .i64 n,.iface 324 (.int .i64 1)]:=aJ (by omega)
def qP (neg:Bool) (m:List Nat) (E:Int) (n:Int) (w:World) (e:Ending) (w':World):Prop:=∃ u,eZ (cN (cX m) (wq m E)) (cC (wq m E)) u∧e=.returned (pf3 neg u n)∧Below w.heap.size w w'
theorem IT {s:ByteArray} {neg:Bool} {m:List Nat} {p:Bool} {E:Int} (h:Pd s neg m p E):∃ h0:0<s.size,
  (((s[0].toNat:Int) == 43)=true∨((s[0].toNat:Int) == 45)=true)∧(∃ h1:1<s.size,s[1].toNat<65)∨s[0].toNat<65∧((s[0].toNat:Int) == 43)=false∧((s[0].toNat:Int) == 45)=false:=by
 obtain⟨⟨sg,xs,hb,hsg,hx⟩,hm,hdig,hlen⟩:=h;have hA:=PI hb
 have hM0:0<m.length:=by
  rcases iu m with h|⟨l,c,h⟩
  ·rw[h] at hdig;cases hdig
  ·rw[h];simp
 have hl:=hA.len;have hn0:0<s.size:=by omega
 obtain⟨q,hq,_⟩:=tE hm 0;have h2:=tF hm 0 (by omega) q hq
 have hlt:m.getD 0 0<65∧(((m.getD 0 0:Nat):Int) == 43)=false∧(((m.getD 0 0:Nat):Int) == 45)=false:=by
  have h3:=GD (m.getD 0 0) (by rcases h2 with h2|h2;exact .inl h2;exact .inr h2.1);refine⟨?_,h3⟩
  rcases h2 with h2|h2
  ·unfold dX at h2;omega
  ·omega
 have hc0:s[0].toNat=(bl s).getD 0 0:=qD s 0 hn0;refine⟨hn0,?_⟩
 rcases hsg with h|h|h
 ·right
  have:=hA.man 0 hn0 (by rw[h.1];simp) (by rw[h.1];simp;omega);rw[h.1] at this;simp only[List.length_nil,dZ] at this;rw[this];exact hlt
 ·left
  have h1:1<s.size:=by rw[h.1] at hl;simp at hl;omega
  refine⟨.inl (by rw[hc0,hb,h.1];rfl),h1,?_⟩;have:=hA.man 1 h1 (by rw[h.1];simp) (by rw[h.1];simp;omega);rw[h.1] at this;simp only[List.length_cons,List.length_nil,bD,dZ] at this;rw[this];exact hlt.1
 ·left
  have h1:1<s.size:=by rw[h.1] at hl;simp at hl;omega
  refine⟨.inr (by rw[hc0,hb,h.1];rfl),h1,?_⟩;have:=hA.man 1 h1 (by rw[h.1];simp) (by rw[h.1];simp;omega);rw[h.1] at this;simp only[List.length_cons,List.length_nil,bD,dZ] at this;rw[this];exact hlt.1
theorem Ho (neg:Bool):IntKind.u64.wrap ((if neg=true then (1:Int) else 0)*9223372036854775808)=(sgw neg:Int):=by cases neg<;>rfl
set_option maxRecDepth 100000 in
theorem OJ (s:ByteArray) (neg:Bool) (m:List Nat) (p:Bool) (E:Int) (w:World) (h:Pd s neg m p E) (ht:(rf m).tr=false) (hf:FO w)
  (hR:∀ w,Calls Tryz.prog 257 #[.string s] w (Mj s neg m E w)):
  Calls Tryz.prog 246 #[.string s] w (qP neg m E s.size w):=by
 obtain⟨h0,Lt⟩:=IT h;have cs:=fun w=>JI s w h0 (aF h.short (by decide)) Lt
 have hm:=h.qa;have hlen:=h.short;have ok:=ve hm;have hmb:(rf m).qa<10000000000000000000:=aP ok.qa (aS (by decide) (show(rf m).ndm≤19 by have:=ok.ndm;omega));obtain⟨d,hd⟩:∃ d,(rf m).qa=d:=⟨_,rfl⟩;obtain⟨x,hx⟩:∃ x,nP m E=x:=⟨_,rfl⟩
 have hkept:Hid (d≠0→∀ u,eZ (cN d x) (cC x) u→eZ (cN (cX m) (wq m E)) (cC (wq m E)) u):=aj (fun h0 u hu=>Il hm E ht (by
  have:nP m E=rfX m E:=by unfold nP rfX;rw[aJ (by rw[hd];exact h0)]
  rw[←this,hx,hd];exact hu))
 have hz0:Hid (d=0→cX m=0∧x=0):=aj (fun h0=>⟨Is hm (by rw[hd];exact h0),by rw[←hx];unfold nP;rw[aQ (by rw[hd];exact h0)]⟩)
 have cr:∀ w,Calls Tryz.prog 257 #[.string s] w fun e w'=>e=.returned (.tuple #[.int .u64 d,.int .i64 x,.bool neg,.bool false,.bool false,.int .i64 s.size,.bool true])∧∃ n,w'=w.drewN n:=by
  intro w;have:=hR w;unfold Mj at this
  rwa [hd,hx,ht] at this
 rw[hd] at hmb;have UC:=hf.opt;have HF:=aj hf;have UM:=ffb;obtain⟨S,hS⟩:∃ S,sgw neg=S:=⟨_,rfl⟩;obtain⟨b2,hb2⟩:∃ b:Int,(if neg=true then (1:Int) else 0)=b:=⟨_,rfl⟩;have hsh:IntKind.u64.wrap (b2*9223372036854775808)=(S:Int):=by rw[←hb2,←hS];exact Ho neg
 have abR:bits BinOp.or IntKind.u64 (S:Int) 0=(S:Int):=by rw[←hS];exact AQ (m:=0) (by decide)
 have abQ:bits BinOp.or IntKind.u64 (S:Int) 9218868437227405312=((S+cD:Nat):Int):=by rw[←hS];exact FK (sgw neg) (by cases neg<;>simp[sgw])
 have cb:∀ w,Calls Tryz.prog 265 #[.bool neg] w fun e w'=>e=.returned (.int .u64 b2)∧w=w':=fun w=>by rw[←hb2];exact rI neg w
 have HS:=aj hS;clear ok hm hd hx hf Lt h hR hS hb2;go_enter Tryz.func246,Tryz.ntmps246
 go_wp2_with fail
 refine(cs _).mono ?_;clear cs;rintro e w1 ⟨rfl,rfl⟩;go_wp2_with fail
 refine(cr _).mono ?_;clear cr;rintro e w1 ⟨rfl,n1,rfl⟩;have UC:(w.drewN n1).cell? ⟨8,0,none⟩=some (.bool true):=UC;go_wp2_with fail
 refine(cb _).mono ?_;clear cb;rintro e w1 ⟨rfl,rfl⟩
 by_cases hz:d=0
 ·obtain⟨z1,z2⟩:=hz0.out hz;subst hz z2;have hfin:Hid (∃ u,eZ (cN (cX m) (wq m E)) (cC (wq m E)) u∧Ending.returned (.tuple #[.float .f64 S,.int .i64 s.size,.nilIface])=.returned (pf3 neg u s.size)):=aj ⟨0,by rw[z1];exact Ij _,by rw[wC (by decide),HS.out];rfl⟩;clear hz0 hkept z1;go_wp2_with fail
  go_ret3
  obtain⟨u,u1,u2⟩:=hfin.out;exact⟨u,u1,u2,Go.below_drewN (Below.refl _ _) _⟩
 ·have hzi:((d:Int) == 0)=false:=by simp;omega
  by_cases YJ:310<x
  ·have hfin:Hid (∃ u,eZ (cN (cX m) (wq m E)) (cC (wq m E)) u∧Ending.returned (.tuple #[.float .f64 (S+cD),.int .i64 s.size,.iface 324 (.int .i64 1)])=.returned (pf3 neg u s.size)):=aj (by
    obtain⟨u,hu⟩:=C9 (cN d x) (cC x) (gr x)
    exact⟨u,hkept.out hz u hu,by rw[Bf (Sq (by omega) YJ hu),HS.out]⟩)
   clear hz0 hkept hz;go_wp2_with fail
   go_ret3
   obtain⟨u,u1,u2⟩:=hfin.out;exact⟨u,u1,u2,Go.below_drewN (Below.refl _ _) _⟩
  ·by_cases YI:x < -345
   ·have hfin:Hid (∃ u,eZ (cN (cX m) (wq m E)) (cC (wq m E)) u∧Ending.returned (.tuple #[.float .f64 S,.int .i64 s.size,.nilIface])=.returned (pf3 neg u s.size)):=aj ⟨0,hkept.out hz 0 (LH (by omega) YI),by rw[wC (by decide),HS.out];rfl⟩;clear hz0 hkept hz;go_wp2_with fail
    go_ret3
    obtain⟨u,u1,u2⟩:=hfin.out;exact⟨u,u1,u2,Go.below_drewN (Below.refl _ _) _⟩
   ·have hx1:-345≤x:=by omega
    have hx2:x≤310:=by omega
    have hd0:0<d:=by omega
    have ce:=fun w hf=>BY d x neg w hd0 (by omega) hf
    have cp:=fun w hf=>zF d x neg w hd0 (by omega) hx1 hx2 hf
    rw[HS.out] at cp;clear hz0 hz;go_wp2_with fail
    refine(ce _ (HF.out.drewN n1).ft).mono ?_;clear ce;rintro e w1 ⟨r,ok,rfl,hok,rfl⟩;have pW:=aj hok;clear hok;cases ok
    ·go_wp2_with fail
     refine(cp _ (HF.out.drewN n1).tab).mono ?_;clear cp;rintro e w2 ⟨u,hu,rfl,hb⟩;have hfin:Hid (eZ (cN (cX m) (wq m E)) (cC (wq m E)) u):=aj (hkept.out (by omega) u hu);have hb2:Hid (Below w.heap.size w w2):=aj ((Go.below_drewN (Below.refl _ _) n1).trans hb);clear hu hkept hb;unfold pfV
     by_cases Uu:u<cD
     ·rw[aQ Uu,HS.out];have he:Hid (pf3 neg u s.size=.tuple #[.float .f64 (S+u),.int .i64 s.size,.nilIface]):=aj (by rw[wC Uu,HS.out]);clear Uu;go_wp2_with fail
      go_ret3
      exact⟨u,hfin.out,by rw[he.out];rfl,hb2.out⟩
     ·rw[aJ Uu,HS.out];have he:Hid (pf3 neg u s.size=.tuple #[.float .f64 (S+cD),.int .i64 s.size,.iface 324 (.int .i64 1)]):=aj (by rw[Bf (by omega),HS.out]);clear Uu;go_wp2_with fail
      go_ret3
      exact⟨u,hfin.out,by rw[he.out];rfl,hb2.out⟩
    ·have hfin:Hid (∃ u,eZ (cN (cX m) (wq m E)) (cC (wq m E)) u∧Ending.returned (.tuple #[.float .f64 r,.int .i64 s.size,.nilIface])=.returned (pf3 neg u s.size)):=aj (by
      obtain⟨u,u1,u2,u3⟩:=pW.out rfl
      exact⟨u,hkept.out (by omega) u u2,by rw[wC u1,u3]⟩)
     clear hkept cp;go_wp2_with fail
     go_ret3
     obtain⟨u,u1,u2⟩:=hfin.out;exact⟨u,u1,u2,Go.below_drewN (Below.refl _ _) _⟩
def Ml (neg:Bool) (m:List Nat) (E:Int) (w:World) (e:Ending) (w':World):Prop:=∃ u,eZ (cN (cX m) (wq m E)) (cC (wq m E)) u∧(u<cD∧e=.returned (.tuple #[.float .f64 (sgw neg+u),.nilIface])∨cD≤u∧∃ p,e=.returned (.tuple #[.float .f64 (sgw neg+cD),.iface 325 p]))∧Below w.heap.size w w'
theorem Ny (s:ByteArray) (neg:Bool) (m:List Nat) (E:Int) (w:World) (hA:Calls Tryz.prog 246 #[.string s] w (qP neg m E s.size w)):
  Calls Tryz.prog 234 #[.string s,.int .i64 64] w (qP neg m E s.size w):=by
 have c:=hA;clear hA;go_enter Tryz.func234,Tryz.ntmps234
 go_wp2_with fail
 refine c.mono ?_;clear c;rintro e w1 ⟨u,hu,rfl,hb⟩;have HU:=aj hu;have HB:=aj hb;clear hu hb
 by_cases hi:u<cD
 ·have hp:=aj (wC (neg:=neg) (n:=s.size) hi);rw[hp.out];go_wp2_with fail
  go_ret3
  exact⟨u,HU.out,by rw[hp.out];rfl,HB.out⟩
 ·have hp:=aj (Bf (neg:=neg) (n:=s.size) (dS hi));rw[hp.out];go_wp2_with fail
  go_ret3
  exact⟨u,HU.out,by rw[hp.out];rfl,HB.out⟩
def SP (neg:Bool) (m:List Nat) (E:Int) (w:World) (e:Ending) (w':World):Prop:=∃ u,eZ (cN (cX m) (wq m E)) (cC (wq m E)) u∧e=.returned (pfV neg u)∧Below w.heap.size w w'
theorem RC (s:ByteArray) (neg:Bool) (m:List Nat) (E:Int) (w:World) (hlen:s.size≤1000) (hA:Calls Tryz.prog 246 #[.string s] w (qP neg m E s.size w)):
  Calls Tryz.prog 217 #[.string s,.int .i64 64] w (SP neg m E w):=by
 have c:=Ny s neg m E w hA;clear hA;have hne:((s.size:Int) != (s.size:Int))=false:=by simp
 go_enter Tryz.func217,Tryz.ntmps217
 go_wp2_with fail
 refine c.mono ?_;clear c;rintro e w1 ⟨u,hu,rfl,hb⟩;have HU:=aj hu;have HB:=aj hb;clear hu hb
 by_cases hi:u<cD
 ·have hp:=aj (wC (neg:=neg) (n:=s.size) hi);have hq:Hid (pfV neg u=.tuple #[.float .f64 (sgw neg+u),.nilIface]):=aj (aQ hi);rw[hp.out];go_wp2_with fail
  go_ret2
  exact⟨u,HU.out,by rw[hq.out];rfl,HB.out⟩
 ·have hp:=aj (Bf (neg:=neg) (n:=s.size) (dS hi));have hq:Hid (pfV neg u=.tuple #[.float .f64 (sgw neg+cD),.iface 324 (.int .i64 1)]):=aj (aJ hi);rw[hp.out];go_wp2_with fail
  go_ret2
  exact⟨u,HU.out,by rw[hq.out];rfl,HB.out⟩
theorem Bi (s:ByteArray) (neg:Bool) (m:List Nat) (E:Int) (w:World) (hf:FO w) (hlen:s.size≤1000) (hA:Calls Tryz.prog 246 #[.string s] w (qP neg m E s.size w)):
  Calls Tryz.prog 187 #[.string s,.int .i64 64] w (Ml neg m E w):=by
 have c:=RC s neg m E w hlen hA;have HF:=aj hf;clear hA hf;go_enter Tryz.func187,Tryz.ntmps187
 go_wp2_with fail
 refine c.mono ?_;clear c;rintro e w1 ⟨u,hu,rfl,hb⟩;have HU:=aj hu;have HB:=aj hb;clear hu hb
 by_cases hi:u<cD
 ·rw[show pfV neg u=.tuple #[.float .f64 (sgw neg+u),.nilIface] from aQ hi];have HI:=aj hi;clear hi;go_wp2_with fail
  go_ret2
  exact⟨u,HU.out,.inl ⟨HI.out,rfl⟩,HB.out⟩
 ·rw[show pfV neg u=.tuple #[.float .f64 (sgw neg+cD),.iface 324 (.int .i64 1)] from aJ hi];have HI:=aj hi;clear hi;obtain⟨ev,h1,h2⟩:=(HF.out.on HB.out).er;have ct:=Tryz.strconv_toError_range ⟨#[80,97,114,115,101,70,108,111,97,116]⟩ s 0 64 ev w1 (aF hlen (by decide)) h1 h2;clear h1 h2;go_wp2_with fail
  refine ct.mono ?_;clear ct;rintro e w2 ⟨N,rfl,_,_,hb2⟩;have HB2:=aj hb2;clear hb2;go_wp2_with fail
  go_ret2
  exact⟨u,HU.out,.inr ⟨dS HI.out,_,rfl⟩,HB.out.trans (HB2.out.mono HB.out.size)⟩
theorem CX (s:ByteArray) (neg:Bool) (m:List Nat) (E:Int) (w:World) (hf:FO w) (hlen:s.size≤1000) (hA:∀ w,FO w→Calls Tryz.prog 246 #[.string s] w (qP neg m E s.size w)):
  Calls Tryz.prog 187 #[.string s,.int .i64 64] w (Ml neg m E w):=Bi s neg m E w hf hlen (hA w hf)
end fl
end Go.Proofs.YthpdlidbaojlbaaGreatDoor
