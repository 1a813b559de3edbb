/- JournalRewrites: append to a new empty slice; stored, all: w -/
import Derived.Test.YthpdlidbaojlbaaGreatDoorQ38
set_option linter.unusedVariables false
set_option linter.unusedSimpArgs false
set_option maxHeartbeats 4000000
open Go.ChangeShapes Go.WideShapes Go.ChangeAt Go.RowKit
namespace Go.Proofs.YthpdlidbaojlbaaGreatDoor
namespace jw
open ks (af ae hlt ah bC alloc_old aG aX aT dp)
structure Jd (pr:Nat→ByteArray) (tx:Int→ByteArray) (B0:Nat) (w:World):Prop where
 szb:B0≤w.heap.size
 print:∀ W,Below B0 w W→∀ x,x<18446744073709551616→Calls Tryz.prog 14 #[.float .f64 x] W fun r w'=>r=.returned (.string (pr x))∧af [] W w'
 short:∀ x,x<18446744073709551616→(pr x).size≤2000
 text:∀ n:Int,0<n→n≤9007199254740992→tx n=ks.qt n
structure RdI (pr:Nat→ByteArray) (tx:Int→ByteArray) (w:World) (l:List StE) (k:Nat) (X:World) (v:Value) (es:List EF):Prop where
 o:dI w.heap.size X v es
 kp:af [] w X
 len:es.length≤2*jc ((l.take k).map (fun e=>e.d))
 rel:∀ o,nK pr tx (jm l k) ((l.drop k).map (fun e=>e.d)) o→nK pr tx none (l.map (fun e=>e.d)) (o.map (fun e=>es.map (fun x=>x.ws)++e))
theorem RdI.bad {pr:Nat→ByteArray} {tx:Int→ByteArray} {w:World} {l:List StE} {k:Nat} {X:World} {v:Value} {es:List EF} (h:RdI pr tx w l k X v es) {e:StE} (he:l[k]?=some e) (hno:¬s7 (jm l k) e.d):nK pr tx none (l.map (fun e=>e.d)) none:=h.rel none (by rw[drop_at he,bP];exact nK.bad _ _ _ hno)
theorem RdI.next {pr:Nat→ByteArray} {tx:Int→ByteArray} {w:World} {l:List StE} {k:Nat} {wr X:World} {v v':Value} {es es':List EF} (h:RdI pr tx w l k wr v es) {e:StE} (he:l[k]?=some e) (hrow:s7 (jm l k) e.d) {q:cG} (hq:jV e.d.val q)
  (hi:dI w.heap.size X v' es') (hk:af [] w X) (hlen:es'.length≤es.length+nQ e.d.val+2) (hes:es'.map (fun x=>x.ws)=es.map (fun x=>x.ws)++vG pr tx e.d.key e.d.dl q):RdI pr tx w l (k+1) X v' es':=by
 refine⟨hi,hk,?_,fun o ho=>?_⟩
 ·rw[AD he];have:=h.len;unfold sV;omega
 ·have h1:nK pr tx (jm l k) ((l.drop k).map (fun e=>e.d)) (o.map (fun r=>vG pr tx e.d.key e.d.dl q++r)):=by rw[drop_at he,bP];refine nK.cons _ _ _ q o hrow hq ?_;rw[←prev_next he];exact ho
  have h2:=h.rel _ h1
  have e2:o.map (fun r=>es'.map (fun x=>x.ws)++r)=(o.map (fun r=>vG pr tx e.d.key e.d.dl q++r)).map (fun r=>es.map (fun x=>x.ws)++r):=by
   cases o with
   | none=>rfl
   | some r=>simp[hes,aD]
  rw[e2];exact h2
theorem dI.app {B B2:Nat} {w w':World} {v v' v2:Value} {es es2:List EF} (h:dI B w v es) (h2:dI B2 w v2 es2) (hB:B≤B2) (hlt:∀ b∈es.map (fun e=>e.g),b<B2) (hp:jy jX 1 32 B w w' v v' es es2):dI B w' v' (es++es2):=by
 have hk:∀ {x:EF} {C:Nat},bF b9 1 9 C w (fK x) x.ws→bF b9 1 9 C w' (fK x) x.ws:=fun ho=>ho.keeps hp.bY (fun b hb hm=>h.row.apart ho (by decide) b (by simpa using hm) hb)
 refine⟨hp.own,fun x hx=>?_,?_⟩
 ·rcases bj.1 hx with hx|hx
  ·exact hk (h.each x hx)
  ·exact(hk (h2.each x hx)).mono hB
 ·rw[aZ,bQ];refine⟨h.nd,h2.nd,fun a ha b hb e=>?_⟩;have h3:=hlt a ha;obtain⟨x,hx,rfl⟩:=aV.1 hb;have h4:=((h2.each x hx).lt x.g rfl).1;omega
theorem dI.vh {B:Nat} {X w5:World} {gv:Value} {pg:List EF} {ws:List ByteArray} {g n c:Nat} (h:dI B X gv pg) (hB:B≤X.heap.size) (hw:ws.length≤maxLen)
  (hp:eW jX 1 32 B (X.alloc (.cells (ws.map Value.string).toArray 9)) w5 gv pg ⟨X.heap.size,ws.length,ws⟩ g n c):dI B w5 (.slice (some ⟨g,0,none⟩) (n+1) c) (pg++[⟨X.heap.size,ws.length,ws⟩])∧∀ w0,w0.heap.size≤B→af [] w0 X→af [] w0 w5:=
 ⟨(h.aN ((af.refl _ X).alloc _)).push (qS X ws B hB hw) (h.Sd (aq _)) hp,fun w0 h0 hk=>(hk.alloc _).step hp.bY (fun b hb=>.inr (aF h0 (h.row.lt b (by simpa using hb)).1))⟩
theorem JH {W:World} {ops:Array Oper} {o:Oper} {a:Act} {K:Act→World→Prop} {Q:Exit→Act→World→Prop} {E:Prop} (hgd:o.guard=none) (s x:Operand) (ho:o.op=.call { callee:=.builtin .append,args:=#[s,x],argTypes:=#[25,25] }) (B:Nat) (v:Value) (n:Nat) (l:List EF) (y:EF)
  (hs:a.eval s=v) (hown:bF jX 1 32 B W v l) (hn:n=l.length) (hx:a.eval x=.slice (some ⟨W.heap.size,0,none⟩) 1 1) (h1:n≤8388608) (hB:B≤W.heap.size)
  (h:∀ g cap w',eW jX 1 32 B W w' v l y g n cap→K (a.put o.dst (.slice (some ⟨g,0,none⟩) (n+1) cap)) w'):if Region.wanted o (yielded ops a.tmps)=true then Oper.wp Tryz.prog o a (W.alloc (.cells #[fK y] 32)) K Q else E:=by
 obtain⟨i9,hi9,iV,iA,im⟩:=cF vz;exact ei hgd s x 25 ho jX 1 32 B i9 (.slice none 0 0) 24 Tryz.underlying25 hi9 iV iA im rfl nJ v n l y hs hown hn 32 rfl 1 hx (by unfold maxLen;omega) (by omega) hB h
end jw
namespace jr
theorem Af {S:Nat→Prop} {a b:World} {B L:Nat} {v:Value} {ll:List (List ByteArray)} (h:I6 a B L v ll) (hk:Kept S a b) (hS:∀ k,B≤k→k<L→S k):I6 b B L v ll:=by obtain⟨xs,h1,h2,h3,h4⟩:=h;refine⟨xs,nX hk h1 (fun k e=>hS k (h1.lt k e).1 (h2 k e)),h2,fun i hi=>?_,h4⟩;obtain⟨x,hx,hi1,hi2⟩:=h3 i hi;exact⟨x,hx,nX hk hi1 (fun k e=>hS k (hi1.lt k e).1 (hi2 k e)),hi2⟩
theorem KH {α β:Type} (f:α→β) (d:α):∀ (l:List α) (j:Nat),j<l.length→(l.map f)[j]?=some (f (l.getD j d))
 | [],j,h=>by simp at h
 | x::l,0,h=>by simp
 | x::l,j+1,h=>by simpa using KH f d l j (by simpa using h)
theorem lK {w:World} {B L:Nat} {v:Value} {ll:List (List ByteArray)} (h:I6 w B L v ll):SN w v ll:=by obtain⟨xs,h1,h2,h3,h4⟩:=h;obtain⟨a,cap,rfl,_,_,ha⟩:=vm h1;refine⟨a,cap,rfl,fun hn=>?_⟩;obtain⟨g,rfl⟩:=ha hn;refine⟨g,0,rfl,fun i hi=>?_⟩;obtain⟨x,hx,hi1,hi2⟩:=h3 i hi;refine⟨x,by rw[bD,h1.cellAt i (by omega)];exact hx,?_⟩;obtain⟨b,c,rfl,_,_,hb⟩:=vm hi1;refine⟨b,c,rfl,fun hm=>?_⟩;obtain⟨g',rfl⟩:=hb hm;refine⟨g',0,rfl,fun j hj=>?_⟩;rw[bD,hi1.cellAt j (by omega)];exact KH _ _ _ _ hj
theorem wN {B:Nat} {w:World} {v:Value} {es:List jw.EF} (h:jw.dI B w v es):I6 w B w.heap.size v (jw.wsE es):=by
 refine⟨es.map jw.fK,?_,fun k e=>(h.row.lt k e).2,fun i hi=>?_,fun i j x y hij hx hy k hk hk2=>?_⟩
 ·have h1:=h.row;unfold jw.bF at h1
  rw[show es.flatMap jw.jX=es.map jw.fK from by rw[List.map_eq_flatMap];rfl] at h1
  unfold jw.wsE;rw[aU];exact h1
 ·have hi':i<es.length:=by simpa[jw.wsE] using hi
  refine⟨jw.fK es[i],by simp[hi'],?_⟩;have h1:=h.each es[i] (ji hi');unfold jw.bF at h1;rw[jw.DB] at h1;have e1:(jw.wsE es).getD i []=es[i].ws:=by simp[jw.wsE,az,hi']
  rw[e1];exact⟨h1,fun k e=>(h1.lt k e).2⟩
 ·rw[bK,lY] at hx hy;obtain⟨a,ha,rfl⟩:=hx;obtain⟨b,hb,rfl⟩:=hy;simp only[jw.fK,Value.ownBlock,fZ] at hk hk2;have hn:=fB.1 h.nd;obtain⟨h1,e1⟩:=au.1 ha;obtain⟨h2,e2⟩:=au.1 hb;have:=hn i j (by simpa using h1) (by simpa using h2) hij;simp only[List.getElem_map,e1,e2] at this;omega
theorem uc {F:List Nat} {w w':World} (h:ks.af F w w'):Kept (fun k=>k∉F) w w':=⟨h.os,h.tape,h.output,h.size,h.block⟩
end jr
namespace jw
open ks (af ae hlt ah bC alloc_old aG aX aT dp)
structure Ca where
 key:ByteArray
 dl:Int
 kind:Int
 text:ByteArray
 items:List ByteArray
 bL:List (ByteArray×ByteArray)
 lN:List ByteArray
 bits:List Nat
structure VE where
 d:Ca
 iv:Value
 pv:Value
 mv:Value
 bv:Value
def sQ (e:VE):List Value:=[.string e.d.key,.int .i64 e.d.dl,.int .i64 e.d.kind,.string e.d.text,e.iv,e.pv,e.mv,e.bv]
def On (x:Nat):List Value:=[.int .u64 (x:Int)]
def wv (d:Ca) (i:Nat):ByteArray×Nat:=(d.lN.getD i ByteArray.empty,d.bits.getD i 0)
def kX (d:Ca):List (ByteArray×Nat):=(List.range d.lN.length).map (wv d)
def eG (d:Ca):gn:=⟨d.key,⟨d.kind,d.text,d.items,d.bL,kX d⟩,d.dl⟩
structure I5 (w:World) (e:VE):Prop where
 i:eh b9 1 w e.iv e.d.items
 p:eh gJ 2 w e.pv e.d.bL
 m:eh b9 1 w e.mv e.d.lN
 b:eh On 1 w e.bv e.d.bits
theorem I5.aN {w w':World} {e:VE} (h:I5 w e) (hk:af [] w w'):I5 w' e:=⟨h.i.aN hk,h.p.aN hk,h.m.aN hk,h.b.aN hk⟩
structure DW (d:Ca):Prop where
 dl:-9223372036854775808≤d.dl∧d.dl≤9223372036854775807
 bits:∀ x∈d.bits,x<18446744073709551616
structure AH (w:World) (v:Value) (l:List VE):Prop where
 row:eh sQ 8 w v l
 each:∀ e∈l,I5 w e
theorem AH.aN {w w':World} {v:Value} {l:List VE} (h:AH w v l) (hk:af [] w w'):AH w' v l:=⟨h.row.aN hk,fun e he=>(h.each e he).aN hk⟩
structure StF where
 d:gn
 ia:Option Addr
 ic:Nat
 pa:Option Addr
 pc:Nat
 ra:Option Addr
 rc:Nat
def StF.e (f:StF):StE:=⟨f.d,.slice f.ia f.d.val.items.length f.ic,.slice f.pa f.d.val.bL.length f.pc,.slice f.ra f.d.val.bI.length f.rc⟩
def ug (f:StF):List Value:=pL f.e
theorem vF:Enc ug 7:=⟨fun _=>rfl,fun x u hu=>by
 simp only[ug,pL,StF.e,bM,dU,sy] at hu
 rcases hu with rfl|rfl|rfl|rfl|rfl|rfl|rfl<;>rfl,by decide⟩
def mh {α:Type} (enc:α→List Value) (k:Nat) (ty:TypeId) (B:Nat) (w:World) (v:Value) (l:List α):Prop:=(∃ g,v=.slice (some g) 0 0∧l=[])∨bF enc k ty B w v l
section
variable {α:Type} {enc:α→List Value} {k:Nat} {ty:TypeId} {B:Nat} {w w':World} {v:Value} {l:List α}
theorem mh.aN (h:mh enc k ty B w v l) (hk:af [] w w'):mh enc k ty B w' v l:=h.imp id (fun h=>h.aN hk)
theorem mh.mono {B':Nat} (h:mh enc k ty B w v l) (hB:B'≤B):mh enc k ty B' w v l:=h.imp id (fun h=>h.mono hB)
theorem mh.form (h:mh enc k ty B w v l):∃ a c,v=.slice a l.length c:=by
 rcases h with⟨g,rfl,rfl⟩|h
 ·exact⟨_,_,rfl⟩
 ·obtain⟨a,c,e,_⟩:=h.form;exact⟨a,c,e⟩
theorem mh.row (h:mh enc k ty B w v l) (he:∀ x,(enc x).length=k):eh enc k w v l:=by
 rcases h with⟨g,rfl,rfl⟩|h
 ·exact⟨some g,0,rfl,aq _,by simp,(fun h=>by cases h),(fun h=>by simp at h)⟩
 ·exact h.row he
end
structure StO (B:Nat) (w:World) (f:StF):Prop where
 i:mh b9 1 9 B w f.e.iv f.d.val.items
 p:mh gJ 2 51 B w f.e.pv f.d.val.bL
 r:bF dN 2 54 B w f.e.rv f.d.val.bI
theorem StO.aN {B:Nat} {w w':World} {f:StF} (h:StO B w f) (hk:af [] w w'):StO B w' f:=⟨h.i.aN hk,h.p.aN hk,h.r.aN hk⟩
theorem StO.mono {B B':Nat} {w:World} {f:StF} (h:StO B w f) (hB:B'≤B):StO B' w f:=⟨h.i.mono hB,h.p.mono hB,h.r.mono hB⟩
structure qG (B:Nat) (w:World) (v:Value) (l:List StF):Prop where
 row:bF ug 7 38 B w v l
 each:∀ f∈l,StO B w f
theorem qG.aN {B:Nat} {w w':World} {v:Value} {l:List StF} (h:qG B w v l) (hk:af [] w w'):qG B w' v l:=⟨h.row.aN hk,fun e he=>(h.each e he).aN hk⟩
theorem qG.sto {B:Nat} {w:World} {v:Value} {l:List StF} (h:qG B w v l):Mi w v (l.map StF.e):=by
 obtain⟨a,cap,h1,h2,h3,_,h4⟩:=h.row.row vF.n;refine⟨⟨a,cap,by rw[aU];exact h1,by rw[aU];exact h2,h3,fun hn=>?_⟩,fun e he=>?_⟩
 ·obtain⟨g,off,ha,hc⟩:=h4 (by rw[aU] at hn;exact hn);refine⟨g,off,ha,fun i e hi=>?_⟩;rw[bK,lY] at hi;obtain⟨f,hf,rfl⟩:=hi;exact hc i f hf
 ·obtain⟨f,hf,rfl⟩:=aV.1 he;exact⟨(h.each f hf).i.row dR.n,(h.each f hf).p.row qd.n,(h.each f hf).r.row mF.n⟩
end jw
namespace jw
open ks (af ae hlt ah bC alloc_old aG aX aT dp)
section
variable {P:Program} {α:Type}
theorem M5 {W:World} {o:Oper} {a:Act} {K:Act→World→Prop} {Q:Exit→Act→World→Prop} (s x:Operand) (t:TypeId)
  (ho:o.op=.call { callee:=.builtin .append,args:=#[s,x],argTypes:=#[t,t] }) (enc:α→List Value) (k:Nat) (e:TypeId) (B:Nat) (i:TypeInfo) (z:Value) (bytes:Nat)
  (ht:P.underlying t=some (.slice e)) (hi:P.info? e=some i) (hz:i.zero=some z) (hsize:i.size=k) (hby:i.bytes=bytes) (hzs:z.cells.size=k) (he:Enc enc k)
  (g:Addr) (ys:List α) (u:Value) (hs:a.eval s=.slice (some g) 0 0) (hx:a.eval x=u) (hr:eh enc k W u ys)
  (h63:ys.length≤maxLen) (hbytes:ys.length*bytes≤140737488355328) (hB:B≤W.heap.size)
  (h:∀ v' w',mh enc k e B w' v' ys→af [] W w'→K (a.put o.dst v') w'):o.wp P a W K Q:=by
 obtain⟨v',w',hrun,h1,h2⟩:∃ v' w',(Builtin.append_ #[t,t] o.type #[.slice (some g) 0 0,u]).run P W=.ok v' w'∧mh enc k e B w' v' ys∧af [] W w':=by
  obtain⟨ad,cap,rfl,_,_,h0,hc⟩:=hr
  rcases cV ys.length with hy|hp
  ·have hy2:ys=[]:=bU.1 hy;subst hy2;refine⟨.slice (some g) 0 0,W,?_,.inl ⟨g,rfl,rfl⟩,af.refl _ _⟩
   cases ad with
   | none=>simp[Builtin.append_,j3 ht,sizeOf,typeInfo,hi,Builtin.lenOf,Builtin.firstCells,loadCells,loadCellsFrom,storeCells]
   | some ad=>simp[Builtin.append_,j3 ht,sizeOf,typeInfo,hi,Builtin.lenOf,Builtin.firstCells,loadCells,loadCellsFrom,storeCells]
  ·obtain⟨gg,off,rfl,hcc⟩:=hc hp
   have hnews:∀ j x,(ys.flatMap enc)[j]?=some x→W.cell? ((⟨gg,off,none⟩:Addr).add j)=some x:=by
    intro j x hj;have hjl:=(au.1 hj).1;rw[iF he.n] at hjl;have hk:=he.pos;have hil:j / k<ys.length:=by rw[gw hk];exact hjl
    have hjj:j / k*k+j % k=j:=by rw[aK];exact cY j k
    have hx:=pK he.n ys (j / k) (j % k) ys[j / k] (ag hil) (dq _ hk);rw[hjj,hj] at hx;have:=hcc (j / k) ys[j / k] (ag hil) (j % k) x hx.symm;rw[fW,hjj] at this;rw[iO];exact this
   have hone:∀ x∈ys.flatMap enc,x.oneCell'=true:=by intro x hx;obtain⟨y,_,hy⟩:=mJ.1 hx;exact he.one y x hy
   obtain⟨v',w',hrun,h2,h3,_,h5⟩:=run_append_own_at (P:=P) W B t o.type e i z k bytes ht hi hz hsize hby hzs he.pos (.slice none 0 0) 0 [] (pO _ _ _ _) ⟨gg,off,none⟩ ys.length cap (ys.flatMap enc) (iF he.n ys) hnews hone (by rw[bD];exact h63) (by rw[bD];exact hbytes) hB;have h64:((ys.length:Nat):Int)≤9223372036854775807:=by simp only[maxLen] at h63;omega
   have e1:=oB (P:=P) W t o.type e i z ht hi hz ⟨gg,off,none⟩ ys.length cap (ys.flatMap enc) (by rw[hsize];exact iF he.n ys) hnews hp h64 (by rw[hby];omega);have e2:=nH (P:=P) W t o.type e i z ht hi hz g 0 0 [] (by simp) (by simp) ⟨gg,off,none⟩ ys.length cap (ys.flatMap enc) (by rw[hsize];exact iF he.n ys) hnews (by omega) (by rw[bD];exact h64) (by rw[bD,hby,nextslicecap_zero hp];omega);refine⟨v',w',?_,.inr ?_,j5 h3⟩
   ·rw[←hrun,e1,e2];simp
   ·unfold bF;simpa using h2
 unfold Oper.wp execOp;simp only[ho,resolve,invoke,builtin,jA,Sem.run_pure,Result.andThen_ok,qI,bP,jD,hs,hx,hrun];exact h v' w' h1 h2
theorem zW {W:World} {ops:Array Oper} {o:Oper} {a:Act} {K:Act→World→Prop} {Q:Exit→Act→World→Prop} {E:Prop} (hgd:o.guard=none) (s x:Operand) (t:TypeId)
  (ho:o.op=.call { callee:=.builtin .append,args:=#[s,x],argTypes:=#[t,t] }) (enc:α→List Value) (k:Nat) (e:TypeId) (B:Nat) (i:TypeInfo) (z:Value) (bytes:Nat)
  (ht:P.underlying t=some (.slice e)) (hi:P.info? e=some i) (hz:i.zero=some z) (hsize:i.size=k) (hby:i.bytes=bytes) (hzs:z.cells.size=k) (he:Enc enc k)
  (g:Addr) (ys:List α) (u:Value) (hs:a.eval s=.slice (some g) 0 0) (hx:a.eval x=u) (hr:eh enc k W u ys)
  (h63:ys.length≤maxLen) (hbytes:ys.length*bytes≤140737488355328) (hB:B≤W.heap.size)
  (h:∀ v' w',mh enc k e B w' v' ys→af [] W w'→K (a.put o.dst v') w'):
  if Region.wanted o (yielded ops a.tmps)=true then Oper.wp P o a W K Q else E:=by
 have hw:Region.wanted o (yielded ops a.tmps)=true:=by simp[Region.wanted,hgd]
 rw[aQ hw];exact M5 s x t ho enc k e B i z bytes ht hi hz hsize hby hzs he g ys u hs hx hr h63 hbytes hB h
end
theorem Vj {W:World} {ops:Array Oper} {o:Oper} {a:Act} {K:Act→World→Prop} {Q:Exit→Act→World→Prop} {E:Prop} (hgd:o.guard=none) (s x:Operand)
  (ho:o.op=.call { callee:=.builtin .append,args:=#[s,x],argTypes:=#[32,32] }) (B:Nat) (g:Addr) (ys:List ByteArray) (u:Value) (hs:a.eval s=.slice (some g) 0 0) (hx:a.eval x=u) (hr:eh b9 1 W u ys)
  (hn:ys.length≤1048576) (hB:B≤W.heap.size) (h:∀ v' w',mh b9 1 9 B w' v' ys→af [] W w'→K (a.put o.dst v') w'):if Region.wanted o (yielded ops a.tmps)=true then Oper.wp Tryz.prog o a W K Q else E:=by
 obtain⟨i9,hi9,iV,iA,im⟩:=cF qc;exact zW hgd s x 32 ho b9 1 9 B i9 (.string ByteArray.empty) 16 Tryz.underlying32 hi9 iV iA im rfl dR g ys u hs hx hr (by unfold maxLen;omega) (by omega) hB h
theorem Vk {W:World} {ops:Array Oper} {o:Oper} {a:Act} {K:Act→World→Prop} {Q:Exit→Act→World→Prop} {E:Prop} (hgd:o.guard=none) (s x:Operand)
  (ho:o.op=.call { callee:=.builtin .append,args:=#[s,x],argTypes:=#[33,33] }) (B:Nat) (g:Addr) (ys:List (ByteArray×ByteArray)) (u:Value) (hs:a.eval s=.slice (some g) 0 0) (hx:a.eval x=u) (hr:eh gJ 2 W u ys)
  (hn:ys.length≤1048576) (hB:B≤W.heap.size) (h:∀ v' w',mh gJ 2 51 B w' v' ys→af [] W w'→K (a.put o.dst v') w'):if Region.wanted o (yielded ops a.tmps)=true then Oper.wp Tryz.prog o a W K Q else E:=by
 obtain⟨i9,hi9,iV,iA,im⟩:=cF Bx;exact zW hgd s x 33 ho gJ 2 51 B i9 _ 32 Tryz.underlying33 hi9 iV iA im rfl qd g ys u hs hx hr (by unfold maxLen;omega) (by omega) hB h
theorem Bw:(Tryz.prog.info? 38).map (fun i=>(i.zero,i.size,i.bytes))=some (some (.agg #[.string ByteArray.empty,.int .i64 0,.string ByteArray.empty,.slice none 0 0,.slice none 0 0,.slice none 0 0,.int .i64 0]),7,120):=by kernel_rfl
theorem T4 {W:World} {ops:Array Oper} {rest:List Oper} {o:Oper} {a:Act} {Q:Exit→Act→World→Prop} (hgd:o.guard=none) (s x:Operand) (ho:o.op=.call { callee:=.builtin .append,args:=#[s,x],argTypes:=#[23,23] }) (B:Nat) (v:Value) (n:Nat) (l:List StF) (y:StF)
  (hs:a.eval s=v) (hown:bF ug 7 38 B W v l) (hn:n=l.length) (hx:a.eval x=.slice (some ⟨W.heap.size,0,none⟩) 1 1) (h1:n≤2097152) (hB:B≤W.heap.size)
  (h:∀ g cap w',eW ug 7 38 B W w' v l y g n cap→wpList Tryz.prog ops Q rest (a.put o.dst (.slice (some ⟨g,0,none⟩) (n+1) cap)) w'):wpList Tryz.prog ops Q (o::rest) a (W.alloc (.cells #[.string y.d.key,.int .i64 y.d.val.kind,.string y.d.val.text,.slice y.ia y.d.val.items.length y.ic,.slice y.pa y.d.val.bL.length y.pc,.slice y.ra y.d.val.bI.length y.rc,.int .i64 y.d.dl] 38)):=by
 obtain⟨i9,hi9,iV,iA,im⟩:=cF Bw;exact gV hgd s x 23 ho ug 7 38 B i9 _ 120 Tryz.underlying23 hi9 iV iA im rfl vF v n l y hs hown hn 38 rfl 1 hx (by unfold maxLen;omega) (by omega) hB h
end jw
end Go.Proofs.YthpdlidbaojlbaaGreatDoor
