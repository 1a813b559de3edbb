/- The document's ranks (ref11): Set of a new member, Rank, Ran -/
import Derived.Test.YthpdlidbaojlbaaGreatDoorQ31
set_option linter.unusedVariables false
set_option linter.unusedSimpArgs false
set_option maxHeartbeats 4000000
open Go.ChangeShapes Go.WideShapes Go.RowKit
namespace Go.Proofs.YthpdlidbaojlbaaGreatDoor
namespace jw
open ks (af ae hlt ah bC alloc_old aG aX aT dp)
theorem DcE.other {B:Nat} {E E':List Nat} {w w':World} {db:Nat} {kl:List ByteArray} (h:DcE B E w db kl) (hk:af [] w w') (hE:∀ b∈E',b∈E∨(w.heap.size≤b∧b<w'.heap.size)):DcE B E' w' db kl:=by
 obtain⟨seed,at_,ov,yv,kv,vv,os,ys,zs,a,b⟩:=h;have a':=a.aN hk;refine⟨seed,at_,ov,yv,kv,vv,os,ys,zs,⟨a'.hd,a'.sd,a'.old,a'.aW,a'.oy,a'.keys,a'.ph,a'.uj,a'.on,a'.yn,a'.kn,a'.zn,a'.b,fun c hc=>?_⟩,b⟩
 rcases hE c hc with h1|⟨h1,h2⟩
 ·exact a'.off c h1
 ·have q:∀ {v:Value} {d:Nat},v.ownBlock=some d→(v.ownBlock=some d→d<w.heap.size)→d≠c:=fun e hl=>by have:=hl e;omega
  exact⟨h2,by have:=hlt a.hd;omega,fun e=>q e (fun e=>(a.old.row.lt _ e).2) rfl,fun e=>q e (fun e=>(a.aW.row.lt _ e).2) rfl,fun e=>q e (fun e=>(a.keys.lt _ e).2) rfl,fun e=>q e (fun e=>(a.ph.lt _ e).2) rfl⟩
theorem DcE.store {B:Nat} {E:List Nat} {w w':World} {db rb:Nat} {kl:List ByteArray} {c:Array Value} {ty:TypeId} (h:DcE B E w db kl) (hb:rb∈E) (hd:w.heap[rb]?=some (.cells c ty (0,0))) (hty:9≠ty) (hk:af [rb] w w'):DcE B E w' db kl:=by
 obtain⟨seed,at_,ov,yv,kv,vv,os,ys,zs,a,b⟩:=h;obtain⟨q1,q2,q3,q4,q5,q6⟩:=a.off rb hb
 have hch:∀ {v kv:Value} {xs:List SL},iz B w v kv xs→v.ownBlock≠some rb→iz B w' v kv xs:=fun hc hv=>hc.keeps hk (fun d e hm=>by simp at hm;subst hm;exact hv e) (fun x hx d e hm=>by
  simp at hm;subst hm;obtain⟨l,h1,_⟩:=hc.each x hx
  exact h1.1.bw hd hty e)
 exact⟨seed,at_,ov,yv,kv,vv,os,ys,zs,⟨hk.get a.hd (by simp;exact fun e=>q2 e.symm),a.sd,hch a.old q3,hch a.aW q4,a.oy,a.keys.keeps hk (fun d e hm=>by simp at hm;subst hm;exact q5 e),a.ph.keeps hk (fun d e hm=>by simp at hm;subst hm;exact q6 e),a.uj,a.on,a.yn,a.kn,a.zn,a.b,a.off.grow hk.size⟩,b⟩
structure CoD {α:Type} (enc:α→List Value) (k:Nat) (ety sty:TypeId) (f:α→ByteArray) (B:Nat) (w:World) (rb db:Nat) (av:Value) (ps:List α) (kl:List ByteArray):Prop where
 hd:w.heap[rb]?=some (.cells #[.int .u64 0,av,dp db] sty (0,0))
 row:bF enc k ety B w av ps
 d:DcE B (rb::av.ownBlock.toList) w db kl
 b:B≤rb
 up:Cc f ps
 pm:kl.Perm (ps.map f)
namespace CoD
variable {α:Type} {enc:α→List Value} {k:Nat} {ety sty:TypeId} {f:α→ByteArray} {B:Nat} {w w':World} {rb db:Nat} {av:Value} {ps:List α} {kl:List ByteArray}
theorem aN (h:CoD enc k ety sty f B w rb db av ps kl) (hk:af [] w w'):CoD enc k ety sty f B w' rb db av ps kl:=⟨hk.get h.hd (by simp),h.row.aN hk,h.d.aN hk,h.b,h.up,h.pm⟩
theorem low (h:CoD enc k ety sty f B w rb db av ps kl):B≤w.heap.size:=aF h.b (bW (hlt h.hd))
theorem len (h:CoD enc k ety sty f B w rb db av ps kl):kl.length=ps.length:=by have:=h.pm.length_eq;simpa using this
theorem fresh (h:CoD enc k ety sty f B w rb db av ps kl) {s:ByteArray} (hs:∀ y∈ps,f y≠s):s∉kl:=fun hm=>by obtain⟨y,hy,e⟩:=aV.1 (h.pm.mem_iff.1 hm);exact hs y hy e
theorem c1 (h:CoD enc k ety sty f B w rb db av ps kl):w.cell? ⟨rb,1,none⟩=some av:=by rw[ah h.hd];rfl
theorem c2 (h:CoD enc k ety sty f B w rb db av ps kl):w.cell? ⟨rb,2,none⟩=some (dp db):=by rw[ah h.hd];rfl
theorem at_ (h:CoD enc k ety sty f B w rb db av ps kl) (hs:Sp B (rb::av.ownBlock.toList) w w'):w'.heap[rb]?=some (.cells #[.int .u64 0,av,dp db] sty (0,0))∧bF enc k ety B w' av ps:=⟨(hs.e rb (by simp) (hlt h.hd)).trans h.hd,h.row.bY (fun b hb=>hs.e b (by simp[hb]) (h.row.lt b hb).2)⟩
theorem Jy (h:CoD enc k ety sty f B w rb db av ps kl) (hs:Sp B (rb::av.ownBlock.toList) w w') (hd:DcE B (rb::av.ownBlock.toList) w' db kl):CoD enc k ety sty f B w' rb db av ps kl:=⟨(h.at_ hs).1,(h.at_ hs).2,hd,h.b,h.up,h.pm⟩
theorem grow {w3 w6:World} {wP:Value} {x:α} {ps':List α} (e:ps'=rp f ps x) (h:CoD enc k ety sty f B w rb db av ps kl) (h1:9≠sty) (h2:ety≠sty) (hs:Sp B (rb::av.ownBlock.toList) w w3) (hd:DcE B (rb::av.ownBlock.toList) w3 db (kl++[f x])) (hk:af [] w3 w6) (hn:∀ y∈ps,f y≠f x)
  (ho:bF enc k ety w3.heap.size w6 wP ps'):CoD enc k ety sty f B (w6.setCell ⟨rb,1,none⟩ wP) rb db wP ps' (kl++[f x])∧Below B w (w6.setCell ⟨rb,1,none⟩ wP):=by
 have hB3:B≤w3.heap.size:=aF h.low hs.b.size;have h6:=hk.get (h.at_ hs).1 (by simp);have mj:af [rb] w6 (w6.setCell ⟨rb,1,none⟩ wP):=(af.refl _ w6).setCell (p:=⟨rb,1,none⟩) (.inl (by simp)) _
 have hd6:DcE B (rb::wP.ownBlock.toList) w6 db (kl++[f x]):=hd.other hk (fun b hb=>by
  rcases bM.1 hb with rfl|hb
  ·exact .inl (by simp)
  ·exact .inr (ho.lt b (by simpa using hb)))
 refine⟨⟨by rw[aX h6 1 _];rfl,(ho.mono hB3).keeps mj (fun b hb hm=>by simp at hm;subst hm;exact ho.bw h6 h2 hb),hd6.store (by simp) h6 h1 mj,h.b,by rw[e];exact yP f ps x h.up hn,?_⟩,(hs.b.trans (hk.ep hB3 (by simp))).trans (mj.ep (aF hB3 hk.size) (fun b hb=>by simp at hb;rw[hb];exact h.b))⟩;have e1:=(tI f ps x).map f;rw[bP,←e] at e1;exact(fq (f x) kl).trans ((h.pm.cons (f x)).trans e1.symm)
end CoD
theorem T5 {W:World} {ops:Array Oper} {rest:List Oper} {o:Oper} {a:Act} {Q:Exit→Act→World→Prop} (hgd:o.guard=none) (s x:Operand) (ho:o.op=.call { callee:=.builtin .append,args:=#[s,x],argTypes:=#[33,33] }) (B:Nat) (v:Value) (n:Nat) (l:List (ByteArray×ByteArray)) (y z:ByteArray)
  (hs:a.eval s=v) (hown:bF gJ 2 51 B W v l) (hn:n=l.length) (hx:a.eval x=.slice (some ⟨W.heap.size,0,none⟩) 1 1) (h1:n≤2097152) (hB:B≤W.heap.size)
  (h:∀ g cap w',eW gJ 2 51 B W w' v l (y,z) g n cap→wpList Tryz.prog ops Q rest (a.put o.dst (.slice (some ⟨g,0,none⟩) (n+1) cap)) w'):wpList Tryz.prog ops Q (o::rest) a (W.alloc (.cells #[.string y,.string z] 51)):=by
 obtain⟨i9,hi9,iV,iA,im⟩:=cF Bx;exact gV hgd s x 33 ho gJ 2 51 B i9 _ 32 Tryz.underlying33 hi9 iV iA im rfl qd v n l (y,z) hs hown hn 51 rfl 1 hx (by unfold maxLen;omega) (by omega) hB h
abbrev Cd (B:Nat) (w:World) (rb db:Nat) (av:Value) (ps:List (ByteArray×ByteArray)) (kl:List ByteArray):Prop:=CoD gJ 2 51 128 (fun x=>x.1) B w rb db av ps kl
abbrev Cl (B:Nat) (w:World) (rb db:Nat) (av:Value) (ps:List ByteArray) (kl:List ByteArray):Prop:=CoD b9 1 9 133 id B w rb db av ps kl
theorem GJ {α:Type} (enc:α→List Value) (k:Nat) (ety sty:TypeId) (f:α→ByteArray) {w w3:World} (hd:DcE w.heap.size [] w3 w.heap.size []) (hk:af [] w w3):
  CoD enc k ety sty f w.heap.size (w3.alloc (.cells #[.int .u64 0,.slice none 0 0,dp w.heap.size] sty)) w3.heap.size w.heap.size (.slice none 0 0) [] []:=
 ⟨aG w3 _,bF.nil _ _ _ _ _,hd.other ((af.refl _ w3).alloc _) (fun b hb=>by simp[Value.ownBlock] at hb;subst hb;exact .inr ⟨aq _,by simp⟩),hk.size,List.Pairwise.nil,o0 _⟩
theorem Rk (w:World):Calls Tryz.prog 30 #[.int .u64 0] w fun r w'=>∃ rb,r=.returned (dp rb)∧Cd w.heap.size w' rb w.heap.size (.slice none 0 0) [] []∧af [] w w':=by
 have HN:=ae (Ks [] 0 w (by decide) (by simp));rw[show((0:Nat):Int)=(0:Int) from rfl] at HN;unfold dp at HN;go_enter Tryz.func30,Tryz.ntmps30
 go_wp2_with (go_at_call 73;refine HN.out.mono ?_;rintro r w2 ⟨rfl,h1,h2⟩;have H1:=ae h1;have H2:=ae h2;clear h1 h2)
 go_ret;exact⟨w2.heap.size,rfl,GJ gJ 2 _ _ _ H1.out H2.out,H2.out.alloc _⟩
theorem Rj (w:World):Calls Tryz.prog 33 #[.int .u64 0] w fun r w'=>∃ rb,r=.returned (dp rb)∧Cl w.heap.size w' rb w.heap.size (.slice none 0 0) [] []∧af [] w w':=by
 have HN:=ae (Ks [] 0 w (by decide) (by simp));rw[show((0:Nat):Int)=(0:Int) from rfl] at HN;unfold dp at HN;go_enter Tryz.func33,Tryz.ntmps33
 go_wp2_with (go_at_call 73;refine HN.out.mono ?_;rintro r w2 ⟨rfl,h1,h2⟩;have H1:=ae h1;have H2:=ae h2;clear h1 h2)
 go_ret;exact⟨w2.heap.size,rfl,GJ b9 1 _ _ _ H1.out H2.out,H2.out.alloc _⟩
theorem yC {α:Type} (enc:α→List Value) (k:Nat) (e:TypeId) (W:World) (B:Nat) (hB:B≤W.heap.size):bF enc k e B (W.alloc (.cells #[] e)) (.slice (some ⟨W.heap.size,0,none⟩) 0 0) []:=by have:=pP (w:=W) (base:=B) (e:=e) (size:=k) #[] 0 hB (by simp[maxLen]) (by simp);exact this
theorem Kg (B rb db:Nat) (av:Value) (ps:List (ByteArray×ByteArray)) (kl:List ByteArray) (w:World) (h:Cd B w rb db av ps kl) (hn:ps.length≤1048576):
  Calls Tryz.prog 42 #[dp rb] w fun r w'=>∃ v,r=.returned v∧bF gJ 2 51 w.heap.size w' v ps∧af [] w w':=by
 obtain⟨al,cap,rfl,_⟩:=h.row.form;have hk:af [] w (w.alloc (.cells #[] 51)):=(af.refl _ w).alloc _;have c1:=ak hk h.c1;have HR:=ae ((h.row.row qd.n).aN hk);have HO:=ae (yC gJ 2 51 w w.heap.size (aq _));have HN:=ae hn;have HK:=ae hk;clear h hn hk;unfold dp;go_enter Tryz.func42,Tryz.ntmps42
 go_wp2_with (at_builtin;refine AX rfl _ _ rfl w.heap.size (.slice (some ⟨w.heap.size,0,none⟩) 0 0) [] ps (.slice al ps.length cap) rfl HO.out rfl HR.out (by simp) (by have:=HN.out;omega) (by simp) ?_;intro v1 w2 hp;have HP:=ae hp;clear hp)
 go_ret;exact⟨v1,rfl,HP.out.own,HK.out.step HP.out.bY (fun b hb=>.inr (by simp[Value.ownBlock] at hb;omega))⟩
theorem ET (B rb db:Nat) (av:Value) (ps:List ByteArray) (kl:List ByteArray) (w:World) (h:Cl B w rb db av ps kl) (hn:ps.length≤1048576):
  Calls Tryz.prog 43 #[dp rb] w fun r w'=>∃ v,r=.returned v∧bF b9 1 9 w.heap.size w' v ps∧af [] w w':=by
 obtain⟨al,cap,rfl,_⟩:=h.row.form;have hk:af [] w (w.alloc (.cells #[] 9)):=(af.refl _ w).alloc _;have c1:=ak hk h.c1;have HR:=ae ((h.row.row dR.n).aN hk);have HO:=ae (yC b9 1 9 w w.heap.size (aq _));have HN:=ae hn;have HK:=ae hk;clear h hn hk;unfold dp;go_enter Tryz.func43,Tryz.ntmps43
 go_wp2_with (at_builtin;refine mL rfl _ _ rfl w.heap.size (.slice (some ⟨w.heap.size,0,none⟩) 0 0) [] ps (.slice al ps.length cap) rfl HO.out rfl HR.out (by simp) (by have:=HN.out;omega) (by simp) ?_;intro v1 w2 hp;have HP:=ae hp;clear hp)
 go_ret;exact⟨v1,rfl,HP.out.own,HK.out.step HP.out.bY (fun b hb=>.inr (by simp[Value.ownBlock] at hb;omega))⟩
theorem Rt (B rb db:Nat) (av:Value) (ps:List (ByteArray×ByteArray)) (kl:List ByteArray) (w:World) (h:Cd B w rb db av ps kl):
  Calls Tryz.prog 80 #[dp rb] w fun r w'=>r=.returned (.int .i64 (ps.length:Int))∧w=w':=by
 obtain⟨al,cap,rfl,_⟩:=h.row.form;have c1:=h.c1;clear h;unfold dp;go_enter Tryz.func80,Tryz.ntmps80
 go_wp2_with fail
 go_ret;exact⟨rfl,rfl⟩
theorem Rs (B rb db:Nat) (av:Value) (ps:List ByteArray) (kl:List ByteArray) (w:World) (h:Cl B w rb db av ps kl):
  Calls Tryz.prog 81 #[dp rb] w fun r w'=>r=.returned (.int .i64 (ps.length:Int))∧w=w':=by
 obtain⟨al,cap,rfl,_⟩:=h.row.form;have c1:=h.c1;clear h;unfold dp;go_enter Tryz.func81,Tryz.ntmps81
 go_wp2_with fail
 go_ret;exact⟨rfl,rfl⟩
end jw
namespace jw
open ks (af ae hlt ah bC alloc_old aG aX aT dp)
set_option maxRecDepth 8000 in
theorem Qk (B rb db:Nat) (av:Value) (ps:List (ByteArray×ByteArray)) (kl:List ByteArray) (s z:ByteArray) (w:World) (h:Cd B w rb db av ps kl) (hs:∀ y∈ps,y.1≠s) (h1:s.size≤1048576) (h2:z.size≤1048576) (hn:ps.length<1048576):
    Calls Tryz.prog 31 #[dp rb,.string s,.string z] w fun r w'=>(∃ u,r=.returned u)∧∃ wP,Cd B w' rb db wP (rp (fun x=>x.1) ps (s,z)) (kl++[s])∧Below B w w':=by
  have hsz1:decide ((1048576:Int)<(s.size:Int))=false:=by simp;omega
  have hsz2:decide ((1048576:Int)<(z.size:Int))=false:=by simp;omega
  obtain⟨i,hi⟩:∃ i,lbK (fun x=>x.1) ps s=i:=⟨_,rfl⟩;obtain⟨n,hnn⟩:∃ n,ps.length=n:=⟨_,rfl⟩;have hin:i≤n:=by rw[←hi,←hnn];exact E5 _ _ _
  have hnb:n<1048576:=by omega
  have hfull:decide ((1048576:Int)≤(n:Int))=false:=by simp;omega
  obtain⟨al,cap,rfl,hcap,_⟩:=h.row.form;have c1:=h.c1;have c2:=h.c2;rw[hnn] at h c1 hcap;have hic:i≤cap:=by omega
  have HG:=ae (Ly B (rb::(Value.slice al n cap).ownBlock.toList) db kl s w h.d (h.fresh hs));have H:=ae h;have HS:=ae hs;have HI:=ae hi;have HN:=ae hnn;have tj:=ae h1;have hch:=Ve al n cap i hic;have hcl:=Vc al n cap i hin;have sh:=ae hnb;clear h hs hi hnn h1 h2 hn hnb hcap;unfold dp at *;go_enter Tryz.func31,Tryz.ntmps31
  go_wp2_with fail
  refine HG.out.mono ?_;rintro r w1 ⟨⟨u,rfl⟩,d1,s1⟩;have Lq:=H.out.Jy s1 d1;have c11:=Lq.c1;have c12:=Lq.c2;have S9:=ae (Ke rb al n cap ps s w1 c11 (Lq.row.row qd.n) (by have:=sh.out;omega) HS.out);rw[HI.out] at S9;have H1:=ae Lq;have S1:=ae s1;unfold dp at *;clear Lq d1 s1 c1 c2;go_wp2_with fail
  refine S9.out.mono ?_;rintro r w2 ⟨rfl,k2⟩;have Ff:=H1.out.aN k2;have c21:=ak k2 c11;have Vi:=ak k2 c12;have l9:=ae (JM B (rb::(Value.slice al n cap).ownBlock.toList) db kl s 0 w2 Ff.d (Ff.fresh HS.out) tj.out (by have:=Ff.len;have:=HN.out;have:=sh.out;omega));have S2:=ae (S1.out.trans (Sp.mk (k2.ep H1.out.low (by simp)) (fun b _ hs=>k2.block b hs (by simp))));have H2:=ae Ff;unfold dp at *;clear Ff k2 c11 c12;go_wp2_with fail
  refine l9.out.mono ?_;rintro r w3 ⟨⟨u,rfl⟩,d3,s3⟩;have S3:=ae (S2.out.trans s3);have D3:=ae d3;obtain⟨q1,q2⟩:=H.out.at_ S3.out;have c31:w3.cell? ⟨rb,1,none⟩=some (.slice al n cap):=by rw[ah q1];rfl
  have f31:w3.frozen? ⟨rb,1,none⟩=false:=bC q1 1;have HR:=ae (q2.row qd.n);have HF:=ae (show ∀ W,af [] w3 W→W.frozen? ⟨rb,1,none⟩=false from fun W hk=>bC (hk.get q1 (by simp)) 1);clear d3 s3 c21 Vi q1 q2
  go_wp2_with (at_builtin;go_loud (first
    | (have _:=K5
       refine AX rfl _ _ rfl w3.heap.size (.slice (some ⟨g,0,none⟩) (i+1) c) (ps.take i++[(s,z)]) (ps.drop i) (.slice (xC al 2 i cap) (n-i) (cap-i)) rfl PQ.out rfl ((HR.out.drop i hin).aN K5.out) (by have:=HN.out;have:=sh.out;simp;omega) (by have:=HN.out;have:=sh.out;simp;omega) (by have:=K5.out.size;omega) ?_;intro v6 w6 hp;have k6:af [] w3 w6:=K5.out.step hp.bY (fun b hb=>.inr (PQ.out.lt b (by simpa using hb)).1);have I8:=ae hp.own;have K6:=ae k6;have c61:=ak k6 c31;have f61:=HF.out w6 k6
       obtain⟨a6,m6,c6,rfl⟩:∃ a6 m6 c6,v6=.slice a6 m6 c6:=by obtain⟨a6,c6,hv6,_⟩:=hp.own.form;exact⟨_,_,_,hv6⟩
       clear hp k6)
    | (have _:=K4
       refine T5 rfl _ _ rfl w3.heap.size v4 i (ps.take i) s z rfl VC.out (by have:=HN.out;have:=sh.out;simp;omega) rfl (by have:=sh.out;omega) (by have:=K4.out.size;omega) ?_;intro g c w5 hp;have k5:af [] w3 w5:=K4.out.step hp.bY (fun b hb=>.inr (VC.out.lt b (by simpa using hb)).1);have PQ:=ae hp.own;have K5:=ae k5;have c51:=ak k5 c31
       clear hp k5)
    | (refine AX rfl _ _ rfl w3.heap.size (.slice none 0 0) [] (ps.take i) (.slice al i cap) rfl (bF.nil _ _ _ _ _) rfl (HR.out.take i hin) (by simp) (by have:=HN.out;have:=sh.out;simp;omega) (aq _) ?_
       intro v4 w4 hp;have k4:af [] w3 w4:=hp.bY;have VC:Hid (bF gJ 2 51 w3.heap.size w4 v4 (ps.take i)):=ae hp.own;have K4:=ae k4
       clear hp k4)))
  have e6:ps.take i++[(s,z)]++ps.drop i=rp (fun x=>x.1) ps (s,z):=by unfold rp;rw[HI.out];simp
  obtain⟨m1,m2⟩:=CoD.grow (x:=(s,z)) e6 H.out (by decide) (by decide) S3.out D3.out K6.out HS.out I8.out;have M1:=ae m1;have M2:=ae m2;have E6:=ae e6;clear m1 m2 e6
  go_ret2
  rw[←E6.out];exact⟨⟨_,rfl⟩,_,M1.out,M2.out⟩
set_option maxRecDepth 8000 in
theorem SK (B rb db:Nat) (av:Value) (ps:List ByteArray) (kl:List ByteArray) (s:ByteArray) (w:World) (h:Cl B w rb db av ps kl) (hs:∀ y∈ps,y≠s) (h1:s.size≤1048576) (hn:ps.length<1048576):
    Calls Tryz.prog 34 #[dp rb,.string s] w fun r w'=>(∃ u,r=.returned u)∧∃ wP,Cl B w' rb db wP (rp id ps s) (kl++[s])∧Below B w w':=by
  have hsz1:decide ((1048576:Int)<(s.size:Int))=false:=by simp;omega
  obtain⟨i,hi⟩:∃ i,lbK id ps s=i:=⟨_,rfl⟩;obtain⟨n,hnn⟩:∃ n,ps.length=n:=⟨_,rfl⟩;have hin:i≤n:=by rw[←hi,←hnn];exact E5 _ _ _
  have hnb:n<1048576:=by omega
  have hfull:decide ((1048576:Int)≤(n:Int))=false:=by simp;omega
  obtain⟨al,cap,rfl,hcap,_⟩:=h.row.form;have c1:=h.c1;have c2:=h.c2;rw[hnn] at h c1 hcap;have hic:i≤cap:=by omega
  have HG:=ae (Ly B (rb::(Value.slice al n cap).ownBlock.toList) db kl s w h.d (h.fresh hs));have H:=ae h;have HS:=ae hs;have HI:=ae hi;have HN:=ae hnn;have tj:=ae h1;have hch:=PG al n cap i hic;have hcl:=PF al n cap i hin;have sh:=ae hnb;clear h hs hi hnn h1 hn hnb hcap;unfold dp at *;go_enter Tryz.func34,Tryz.ntmps34
  go_wp2_with fail
  refine HG.out.mono ?_;rintro r w1 ⟨⟨u,rfl⟩,d1,s1⟩;have Lq:=H.out.Jy s1 d1;have c11:=Lq.c1;have c12:=Lq.c2;have S9:=ae (Kd rb al n cap ps s w1 c11 (Lq.row.row dR.n) (by have:=sh.out;omega) HS.out);rw[HI.out] at S9;have H1:=ae Lq;have S1:=ae s1;unfold dp at *;clear Lq d1 s1 c1 c2;go_wp2_with fail
  refine S9.out.mono ?_;rintro r w2 ⟨rfl,k2⟩;have Ff:=H1.out.aN k2;have c21:=ak k2 c11;have Vi:=ak k2 c12;have l9:=ae (JM B (rb::(Value.slice al n cap).ownBlock.toList) db kl s 0 w2 Ff.d (Ff.fresh HS.out) tj.out (by have:=Ff.len;have:=HN.out;have:=sh.out;omega));have S2:=ae (S1.out.trans (Sp.mk (k2.ep H1.out.low (by simp)) (fun b _ hs=>k2.block b hs (by simp))));have H2:=ae Ff;unfold dp at *;clear Ff k2 c11 c12;go_wp2_with fail
  refine l9.out.mono ?_;rintro r w3 ⟨⟨u,rfl⟩,d3,s3⟩;have S3:=ae (S2.out.trans s3);have D3:=ae d3;obtain⟨q1,q2⟩:=H.out.at_ S3.out;have c31:w3.cell? ⟨rb,1,none⟩=some (.slice al n cap):=by rw[ah q1];rfl
  have f31:w3.frozen? ⟨rb,1,none⟩=false:=bC q1 1;have HR:=ae (q2.row dR.n);have HF:=ae (show ∀ W,af [] w3 W→W.frozen? ⟨rb,1,none⟩=false from fun W hk=>bC (hk.get q1 (by simp)) 1);clear d3 s3 c21 Vi q1 q2
  go_wp2_with (at_builtin;go_loud (first
    | (have _:=K5
       refine mL rfl _ _ rfl w3.heap.size (.slice (some ⟨g,0,none⟩) (i+1) c) (ps.take i++[s]) (ps.drop i) (.slice (xC al 1 i cap) (n-i) (cap-i)) rfl PQ.out rfl ((HR.out.drop i hin).aN K5.out) (by have:=HN.out;have:=sh.out;simp;omega) (by have:=HN.out;have:=sh.out;simp;omega) (by have:=K5.out.size;omega) ?_;intro v6 w6 hp;have k6:af [] w3 w6:=K5.out.step hp.bY (fun b hb=>.inr (PQ.out.lt b (by simpa using hb)).1);have I8:=ae hp.own;have K6:=ae k6;have c61:=ak k6 c31;have f61:=HF.out w6 k6
       obtain⟨a6,m6,c6,rfl⟩:∃ a6 m6 c6,v6=.slice a6 m6 c6:=by obtain⟨a6,c6,hv6,_⟩:=hp.own.form;exact⟨_,_,_,hv6⟩
       clear hp k6)
    | (have _:=K4
       refine Ab rfl _ _ rfl w3.heap.size v4 i (ps.take i) s rfl VC.out (by have:=HN.out;have:=sh.out;simp;omega) rfl (by have:=sh.out;omega) (by have:=K4.out.size;omega) ?_;intro g c w5 hp;have k5:af [] w3 w5:=K4.out.step hp.bY (fun b hb=>.inr (VC.out.lt b (by simpa using hb)).1);have PQ:=ae hp.own;have K5:=ae k5;have c51:=ak k5 c31
       clear hp k5)
    | (refine mL rfl _ _ rfl w3.heap.size (.slice none 0 0) [] (ps.take i) (.slice al i cap) rfl (bF.nil _ _ _ _ _) rfl (HR.out.take i hin) (by simp) (by have:=HN.out;have:=sh.out;simp;omega) (aq _) ?_
       intro v4 w4 hp;have k4:af [] w3 w4:=hp.bY;have VC:Hid (bF b9 1 9 w3.heap.size w4 v4 (ps.take i)):=ae hp.own;have K4:=ae k4
       clear hp k4)))
  have e6:ps.take i++[s]++ps.drop i=rp id ps s:=by unfold rp;simp only[id_eq];rw[HI.out];simp
  obtain⟨m1,m2⟩:=CoD.grow (x:=s) e6 H.out (by decide) (by decide) S3.out D3.out K6.out HS.out I8.out;have M1:=ae m1;have M2:=ae m2;have E6:=ae e6;clear m1 m2 e6
  go_ret2
  rw[←E6.out];exact⟨⟨_,rfl⟩,_,M1.out,M2.out⟩
open rk (Fl fk gN lbR j9)
attribute [local go_sem] gR
theorem Gr:(Tryz.prog.info? 54).map (fun i=>(i.zero,i.size,i.bytes))=some (some (.agg #[.string ⟨#[]⟩,.float .f64 0]),2,24):=by kernel_rfl
theorem Ga {W:World} {ops:Array Oper} {rest:List Oper} {o:Oper} {a:Act} {Q:Exit→Act→World→Prop} (hgd:o.guard=none) (s x:Operand) (ho:o.op=.call { callee:=.builtin .append,args:=#[s,x],argTypes:=#[34,34] }) (B:Nat) (v:Value) (n:Nat) (l:List (ByteArray×Nat)) (y:ByteArray) (z:Nat)
  (hs:a.eval s=v) (hown:bF dN 2 54 B W v l) (hn:n=l.length) (hx:a.eval x=.slice (some ⟨W.heap.size,0,none⟩) 1 1) (h1:n≤2097152) (hB:B≤W.heap.size)
  (h:∀ g cap w',eW dN 2 54 B W w' v l (y,z) g n cap→wpList Tryz.prog ops Q rest (a.put o.dst (.slice (some ⟨g,0,none⟩) (n+1) cap)) w'):wpList Tryz.prog ops Q (o::rest) a (W.alloc (.cells #[.string y,.float .f64 z] 54)):=by
 obtain⟨i9,hi9,iV,iA,im⟩:=cF Gr;exact gV hgd s x 34 ho dN 2 54 B i9 _ 24 Tryz.underlying34 hi9 iV iA im rfl mF v n l (y,z) hs hown hn 54 rfl 1 hx (by unfold maxLen;omega) (by omega) hB h
structure RkD (B:Nat) (w:World) (rb:Nat) (av:Value) (ps:List (ByteArray×Nat)):Prop where
 hd:w.heap[rb]?=some (.cells #[av] 135 (0,0))
 row:bF dN 2 54 B w av ps
 b:B≤rb
namespace RkD
variable {B:Nat} {w w':World} {rb:Nat} {av:Value} {ps:List (ByteArray×Nat)}
theorem aN (h:RkD B w rb av ps) (hk:af [] w w'):RkD B w' rb av ps:=⟨hk.get h.hd (by simp),h.row.aN hk,h.b⟩
theorem low (h:RkD B w rb av ps):B≤w.heap.size:=aF h.b (bW (hlt h.hd))
theorem c0 (h:RkD B w rb av ps):w.cell? ⟨rb,0,none⟩=some av:=by rw[ah h.hd];rfl
end RkD
theorem Ri (w:World):Calls Tryz.prog 36 #[.int .u64 0] w fun r w'=>r=.returned (dp w.heap.size)∧RkD w.heap.size w' w.heap.size (.slice none 0 0) []∧af [] w w':=by
 unfold dp;go_enter Tryz.func36,Tryz.ntmps36
 go_wp2
 go_ret;exact⟨rfl,⟨aG w _,bF.nil _ _ _ _ _,aq _⟩,(af.refl _ w).alloc _⟩
theorem KK (B rb:Nat) (av:Value) (ps:List (ByteArray×Nat)) (w:World) (h:RkD B w rb av ps):
  Calls Tryz.prog 45 #[dp rb] w fun r w'=>r=.returned (.int .i64 (ps.length:Int))∧w=w':=by
 obtain⟨al,cap,rfl,_⟩:=h.row.form;have c1:=h.c0;clear h;unfold dp;go_enter Tryz.func45,Tryz.ntmps45
 go_wp2_with fail
 go_ret;exact⟨rfl,rfl⟩
structure AtR (ps:List (ByteArray×Nat)) (s:ByteArray) (i:Nat):Prop where
 le:i≤ps.length
 lo:∀ p y,p<i→ps[p]?=some y→y.1≠s
 hi:∀ y,ps[i]?=some y→y.1=s
theorem AtR.none {ps:List (ByteArray×Nat)} {s:ByteArray} (h:∀ y∈ps,y.1≠s):AtR ps s ps.length:=⟨aq _,fun p y _ hy=>h y (aB hy),fun y hy=>by simp at hy⟩
theorem AtR.of {ps:List (ByteArray×Nat)} (h:(ps.map (fun x=>x.1)).Nodup) {i:Nat} {x:ByteArray×Nat} (hx:ps[i]?=some x):AtR ps x.1 i:=by have hi:=(au.1 hx).1;refine⟨bW hi,fun p y hp hy e=>?_,fun y hy=>by rw[hx] at hy;rw[cK hy]⟩;have h1:=fB.1 h p i (by simp;omega) (by simp;omega) hp;obtain⟨_,e1⟩:=au.1 hy;obtain⟨_,e2⟩:=au.1 hx;simp only[List.getElem_map] at h1;rw[e1,e2] at h1;exact h1 e
theorem PJ (B rb:Nat) (av:Value) (ps:List (ByteArray×Nat)) (s:ByteArray) (i:Nat) (w:World) (h:RkD B w rb av ps) (hn:ps.length≤1048576) (hi:AtR ps s i):
  Calls Tryz.prog 78 #[dp rb,.string s] w fun r w'=>r=.returned (.int .i64 (if i<ps.length then (i:Int) else -1))∧af [] w w':=by
 have hr:=h.row.row mF.n;have hlo:=h.low;have c0:=h.c0;obtain⟨al,cap,hv,_,_,_,hc⟩:=hr.lN;subst hv;obtain⟨n,hnn⟩:∃ n,ps.length=n:=⟨_,rfl⟩;rw[hnn] at c0 hc hn ⊢;have HC:=ae hc;have HN:=ae hnn;have HI:=ae hi;have hin:i≤n:=by rw[←hnn];exact hi.le
 clear h hr hlo hc hnn hi;unfold dp;go_enter Tryz.func78,Tryz.ntmps78
 go_wp2_with fail
 go_loopw [14,5,6] (fun k _ _ wr=>∃ m:Nat,k=.int .i64 (m:Int)∧m≤i∧Hid (af [] w wr)) (fun k _ _ _=>i+1-(intOf k).toNat)
 case atStart=>exact⟨0,rfl,bz _,ae (af.refl _ _)⟩
 case round=>
  obtain⟨m,rfl,hm,HV⟩:=hrel
  by_cases hlt2:m<n
  ·obtain⟨x,hx⟩:∃ x,ps[m]?=some x:=⟨_,ag (by rw[HN.out];exact hlt2)⟩;obtain⟨g,off,rfl,hcc⟩:=HC.out (by omega);have hc0:=ak HV.out (hcc m x hx).1;have hc1:=ak HV.out (hcc m x hx).2;have hmn:(m:Int)<(n:Int):=by omega
   obtain⟨w4,hw4⟩:∃ w4,wr.alloc (.cells #[.string x.1,.float .f64 x.2] 54)=w4:=⟨_,rfl⟩;have hk4:af [] wr w4:=by rw[←hw4];exact(af.refl _ wr).alloc _
   have g0:w4.cell? ⟨wr.heap.size,0,none⟩=some (.string x.1):=by rw[←hw4,ah (aG wr _)];rfl
   have PV:=ae (HV.out.trans hk4)
   by_cases Lo:m=i
   ·subst Lo;have hxs:x.1=s:=HI.out.hi x hx;subst hxs;clear hcc hx hk4;go_wp2_with fail
    go_ret;refine⟨?_,PV.out⟩
    first|rfl|(rw[aQ hlt2];rfl)
   ·have hbe:(x.1.toList == s.toList)=false:=ks.iB (HI.out.lo m x (by omega) hx);clear hcc hx hk4;go_wp2_with fail
    go_roundw
    case rel=>exact⟨m+1,by go_num,by omega,PV⟩
    case measure=>simp[intOf];omega
  ·have hmn:m=n:=by omega
   have hin2:¬i<n:=by omega
   subst hmn;go_wp2_with fail
   go_ret;refine⟨?_,HV.out⟩
   first|rfl|(rw[aJ hin2];rfl)
theorem Md (a b:ByteArray×Nat) (w:World) (ha:Fl a.2) (hb:Fl b.2):
  Calls Tryz.prog 122 #[.agg #[.string a.1,.float .f64 a.2],.agg #[.string b.1,.float .f64 b.2]] w fun r w'=>r=.returned (.bool (decide (gN a b<0)))∧af [] w w':=by
 have h1:=rk.yD ha hb;obtain⟨am,ax⟩:=a;obtain⟨bm,bx⟩:=b;simp only at h1 ⊢;have hlt:=ot am bm
 rcases dy (fk ax) (fk bx) with hc|hc|hc
 ·rw[show gN (am,ax) (bm,bx)=-1 from aQ hc];rw[fl.j8 hc] at h1;clear hc ha hb;go_enter Tryz.func122,Tryz.ntmps122
  go_wp2_with fail
  go_ret;exact⟨rfl,((af.refl _ _).alloc _).alloc _⟩
 ·rw[show gN (am,ax) (bm,bx)=Lib.compareBytes am.data.toList bm.data.toList from(aJ (by simp only;omega)).trans (aJ (by simp only;omega))];rw[show compare (fk ax) (fk bx)=.eq by rw[hc];simp] at h1;clear hc ha hb;go_enter Tryz.func122,Tryz.ntmps122
  go_wp2_with fail
  go_ret;exact⟨rfl,((af.refl _ _).alloc _).alloc _⟩
 ·rw[show gN (am,ax) (bm,bx)=1 from(aJ (by simp only;omega)).trans (aQ hc)];rw[fl.lr hc] at h1;clear hc ha hb;go_enter Tryz.func122,Tryz.ntmps122
  go_wp2_with fail
  go_ret;exact⟨rfl,((af.refl _ _).alloc _).alloc _⟩
end jw
namespace jw
open ks (af ae hlt ah bC alloc_old aG aX aT dp)
open rk (Fl fk gN lbR j9)
attribute [local go_sem] gR
theorem LF {x:Nat} (h:Fl x):FloatKind.f64.format.order x x=some .eq:=by rw[rk.yD h h];simp
set_option maxRecDepth 8000 in
theorem Qj (B rb:Nat) (av:Value) (ps:List (ByteArray×Nat)) (s:ByteArray) (x:Nat) (w:World) (h:RkD B w rb av ps) (hn:ps.length<1048576) (hs:∀ y∈ps,y.1≠s) (h1:s.size≤1048576) (hx:Fl x):
  Calls Tryz.prog 37 #[dp rb,.string s,.float .f64 x] w fun r w'=>(∃ u,r=.returned u)∧∃ wP,RkD B w' rb wP (ps++[(s,x)])∧Below B w w':=by
 have HAT:=ae (PJ B rb av ps s ps.length w h (by omega) (AtR.none hs));rw[aJ (by omega)] at HAT;have hsz:decide ((1048576:Int)<(s.size:Int))=false:=by simp;omega
 have heq:=LF hx;obtain⟨al,cap,rfl,_⟩:=h.row.form;obtain⟨n,hnn⟩:∃ n,ps.length=n:=⟨_,rfl⟩;rw[hnn] at h hn;have hfull:decide ((1048576:Int)≤(n:Int))=false:=by simp;omega
 have H:=ae h;have HN:=ae hnn;have sh:=ae hn;unfold dp at *;clear h hn hnn hs h1;go_enter Tryz.func37,Tryz.ntmps37
 go_wp2_with fail
 refine HAT.out.mono ?_;rintro r w1 ⟨rfl,k1⟩;have hd:=k1.get H.out.hd (by simp);have c1:w1.cell? ⟨rb,0,none⟩=some (.slice al n cap):=by rw[ah hd];rfl
 have HR:=ae (H.out.row.aN k1);have HF:=ae (show ∀ W,af (Value.slice al n cap).ownBlock.toList w1 W→W.heap[rb]?=some (.cells #[.slice al n cap] 135 (0,0)) from fun W hk=>hk.get hd (by have:=H.out.row.bw H.out.hd (by decide);simpa using this));have PS:=ae (show B≤w1.heap.size by have:=H.out.low;have:=k1.size;omega);have K1:=ae k1;clear hd k1;go_wp2_with (at_builtin;go_loud (refine Ga rfl _ _ rfl B (.slice al n cap) n ps s x rfl HR.out HN.out.symm rfl (by have:=sh.out;omega) PS.out ?_;intro g c w5 hp;have hd5:=HF.out w5 hp.bY;have c5:w5.cell? ⟨rb,0,none⟩=some (.slice al n cap):=(by rw[ah hd5];rfl);have f5:w5.frozen? ⟨rb,0,none⟩=false:=bC hd5 0;have HD5:=ae hd5;have HP:=ae hp;clear hp hd5))
 go_ret2
 have hk5:af [rb] w5 (w5.setCell ⟨rb,0,none⟩ (.slice (some ⟨g,0,none⟩) (n+1) c)):=(af.refl _ w5).setCell (p:=⟨rb,0,none⟩) (.inl (by simp)) _;refine⟨⟨_,rfl⟩,.slice (some ⟨g,0,none⟩) (n+1) c,⟨by rw[aX HD5.out 0 _];rfl,HP.out.own.keeps hk5 (fun b hb hm=>by simp at hm;rw[hm] at hb;exact HP.out.own.bw HD5.out (by decide) hb),H.out.b⟩,?_⟩;exact((K1.out.ep H.out.low (by simp)).trans (HP.out.bY.ep PS.out (fun b hb=>(HR.out.lt b (by simpa using hb)).1))).trans (hk5.ep (by have:=PS.out;have:=HP.out.bY.size;omega) (fun b hb=>by simp at hb;rw[hb];exact H.out.b))
set_option maxRecDepth 8000 in
theorem Nu (B rb:Nat) (av:Value) (ps:List (ByteArray×Nat)) (i:Nat) (v:ByteArray×Nat) (w:World) (h:RkD B w rb av ps) (hn:ps.length≤1048576) (hnd:(ps.map (fun x=>x.1)).Nodup) (hf:∀ y∈ps,Fl y.2) (hv:ps[i]?=some v):
  Calls Tryz.prog 82 #[dp rb,.string v.1] w fun r w'=>r=.returned (.tuple #[.int .i64 (lV ps v:Int),.bool true])∧af [] w w':=by
 have hi:=(au.1 hv).1;have HAT:=ae (PJ B rb av ps v.1 i w h hn (AtR.of hnd hv));rw[aQ hi] at HAT;have hr:=h.row.row mF.n;have c0:=h.c0;obtain⟨al,cap,hv2,_,_,_,hc⟩:=hr.lN;subst hv2;obtain⟨n,hnn⟩:∃ n,ps.length=n:=⟨_,rfl⟩;rw[hnn] at c0 hc hn hi;obtain⟨g,off,rfl,hcc⟩:=hc (by omega);have HC:=ae hcc;have HN:=ae hnn;have HF:=ae hf;have HV:=ae hv;have hin:(i:Int)<(n:Int):=by omega
 have hib:i≤1048576:=by omega
 have hwi:IntKind.i64.wrap (i:Int)=(i:Int):=by rw[cH];omega
 have hni:decide ((i:Int)<0)=false:=by simp
 unfold dp at *;clear h hr hc hcc hnn hnd hf hv;go_enter Tryz.func82,Tryz.ntmps82
 go_wp2_with fail
 refine HAT.out.mono ?_;rintro r w1 ⟨rfl,k1⟩;have c1:=ak k1 c0;have K1:=ae k1;clear k1;go_wp2_with fail
 go_loopw [20,7,9] (fun k c _ wr=>∃ m:Nat,k=.int .i64 (m:Int)∧c=.int .i64 (lV (ps.take m) v:Int)∧m≤n∧Hid (af [] w wr)) (fun k _ _ _=>n-(intOf k).toNat)
 case atStart=>exact⟨0,rfl,rfl,bz _,K1⟩
 case round=>
  obtain⟨m,rfl,rfl,hm,HK⟩:=hrel
  by_cases hlt2:m<n
  ·obtain⟨x,hx⟩:∃ x,ps[m]?=some x:=⟨_,ag (by rw[HN.out];exact hlt2)⟩;have hc0:=ak HK.out (HC.out m x hx).1;have hc1:=ak HK.out (HC.out m x hx).2;have hmn:(m:Int)<(n:Int):=by omega
   obtain⟨w4,hw4⟩:∃ w4,wr.alloc (.cells #[.string x.1,.float .f64 x.2] 54)=w4:=⟨_,rfl⟩;have hk4:af [] wr w4:=by rw[←hw4];exact(af.refl _ wr).alloc _
   have g0:w4.cell? ⟨wr.heap.size,0,none⟩=some (.string x.1):=by rw[←hw4,ah (aG wr _)];rfl
   have g1:w4.cell? ⟨wr.heap.size,1,none⟩=some (.float .f64 x.2):=by rw[←hw4,ah (aG wr _)];rfl
   have Lp:=HK.out.trans hk4;have g2:=ak Lp c0;have g3:=ak Lp (HC.out i v HV.out).1;have g4:=ak Lp (HC.out i v HV.out).2;have HA:=ae (fun W=>Md x v W (HF.out x (aB hx)) (HF.out v (aB HV.out)));have PV:=ae Lp;obtain⟨bl,hbl⟩:∃ bl:Bool,bl=decide (gN x v<0):=⟨_,rfl⟩;rw[←hbl] at HA
   have ht:lV (ps.take (m+1)) v=lV (ps.take m) v+(if bl then 1 else 0):=by unfold lV;rw[c8,hx,List.countP_append,hbl];simp
   have hcb:lV (ps.take m) v≤m:=by unfold lV;exact aF List.countP_le_length (by rw[aR];omega)
   obtain⟨cn,hcn⟩:∃ cn,lV (ps.take m) v=cn:=⟨_,rfl⟩;rw[hcn] at ht hcb ⊢;have HT:=ae ht;clear hx hk4 Lp hbl ht hcn;go_wp2_with fail
   go_still_tail 8,(by kernel_rfl)
   change wpList _ _ _ _ _ w4.drew
   go_wp2_with (go_at_call 122;refine(HA.out _).mono ?_;rintro r w6 ⟨rfl,k6⟩;have K6:=ae k6;clear k6)
   all_goals
    rename_i hbl
    refine⟨⟨m+1,by go_num,?_,by omega,ae (PV.out.trans (((af.refl _ _).drew).trans K6.out))⟩,by simp[intOf];omega⟩;rw[HT.out,hbl];go_num
  ·obtain rfl:m=n:=by omega
   have ht:ps.take m=ps:=aE (by rw[HN.out];exact aq _);rw[ht];go_wp2_with fail
   go_ret2
   exact⟨rfl,HK.out⟩
theorem yt (W:World) (n:Nat) (hn:n≤2097152):(Instr.makeSlice 34 (.int .i64 (n:Int)) (.int .i64 (n:Int))).run Tryz.prog W=.ok (.slice (some ⟨W.heap.size,0,none⟩) n n) (W.alloc (.cells (madeCells (Value.agg #[.string ⟨#[]⟩,.float .f64 0]).cells (n*2)) 54)):=by obtain⟨i9,hi9,iV,iA,im⟩:=cF Gr;have:=p7 (P:=Tryz.prog) W 34 54 i9 (.agg #[.string ⟨#[]⟩,.float .f64 0]) Tryz.underlying34 hi9 iV .i64 .i64 (n:Int) (n:Int) (by omega) (nF _) (by rw[iA];simp;omega) (by rw[im];omega) (by omega);simpa[iA] using this
theorem EU (n:Nat):(madeCells (Value.agg #[.string ⟨#[]⟩,.float .f64 0]).cells (n*2)).toList=(List.replicate n (ByteArray.empty,0)).flatMap dN:=by
 apply dG
 intro i
 by_cases h:i<n*2
 ·have e1:=pK (enc:=dN) (k:=2) (fun _=>rfl) (List.replicate n (ByteArray.empty,0)) (i / 2) (i % 2) (ByteArray.empty,0) (by rw[jj,aQ (by omega)]) (by omega);rw[show i / 2*2+i % 2=i by omega] at e1;rw[e1]
  rcases(by omega:i % 2=0∨i % 2=1) with h2|h2
  ·rw[h2];simp[madeCells,Value.cells,dN,h,h2];rfl
  ·rw[h2];simp[madeCells,Value.cells,dN,h,h2]
 ·rw[bR (by simp[madeCells];omega),bR (by rw[iF (k:=2) (fun _=>rfl)];simp;omega)]
end jw
end Go.Proofs.YthpdlidbaojlbaaGreatDoor
